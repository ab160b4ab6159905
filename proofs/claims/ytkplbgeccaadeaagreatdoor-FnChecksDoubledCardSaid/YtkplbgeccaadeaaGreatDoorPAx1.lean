-- printed by xprint.py: the kit's print.py with given contracts
import Derived.Test.YtkplbgeccaadeaaGreatDoorPAx0
namespace Go.Proofs.YtkplbgeccaadeaaGreatDoor.PA
open Go.RowKit Go.Proofs.YtkplbgeccaadeaaGreatDoorW.PrintWords Go.Proofs.YtkplbgeccaadeaaGreatDoorW.PrintLast Go.Proofs.YtkplbgeccaadeaaGreatDoorW.PrintMore
attribute [local go_sem] max2_int min2_int max_two min_two max_three min_three max_four min_four   -- for this text's walks alone
set_option linter.unusedVariables false
set_option linter.unusedSimpArgs false
/-! ### laws_big: function 5 -/
def laws_big.f (l0 : List Int) (l1 : List Int) : Option (Bool) := if (l0.length : Int) > 1048576 then (some true) else (some (decide ((l1.length : Int) > (wrap64 (1048576 - (l0.length : Int))))))
set_option maxHeartbeats 8000000 in
set_option maxRecDepth 100000 in
theorem laws_big.calls (A0 : Option Addr) (c0 : Nat) (l0 : List Int) (A1 : Option Addr) (c1 : Nat) (l1 : List Int) (r : Bool) (w : World) (hr0 : Kd.C (Kd.int .u8) w A0 l0.length l0) (hc0 : l0.length ≤ c0) (hr1 : Kd.C (Kd.int .u8) w A1 l1.length l1) (hc1 : l1.length ≤ c1) (h : laws_big.f l0 l1 = some r) :
    Calls Tryz.prog 5 #[.slice A0 l0.length c0, .slice A1 l1.length c1] w fun e w' => e = .returned (.bool r) ∧ Drawn0 w w' := by
  have HR0 := Aside0.mk hr0
  have HC0 := Aside0.mk hc0
  clear hr0 hc0
  have HR1 := Aside0.mk hr1
  have HC1 := Aside0.mk hc1
  clear hr1 hc1
  have H : (if (l0.length : Int) > 1048576 then (some true) else (some (decide ((l1.length : Int) > (wrap64 (1048576 - (l0.length : Int))))))) = some r := h
  clear h
  by_cases c3 : (l0.length : Int) > 1048576
  · rw [if_pos c3] at H
    have c3b0 : decide (1048576 < (l0.length : Int)) = true := decide_eq_true c3
    have c3b1 : decide (1048576 < l0.length) = true := decide_eq_true (by omega)
    clear c3
    obtain rfl := Option.some.inj H
    go_enter Tryz.func5, Tryz.ntmps5
    go_wp2
    go_ret
    exact ⟨by first | rfl | (simp; done) | (simp [*]; done) | (simp [isEmpty_bne]; done) | (simp [i64_w]; done) | (simp only [i64_w]; done), by repeat (first | exact Drawn0.refl _ | apply Drawn0.step)⟩
  · rw [if_neg c3] at H
    have c3b0 : decide (1048576 < (l0.length : Int)) = false := decide_eq_false c3
    have c3b1 : decide (1048576 < l0.length) = false := decide_eq_false (by omega)
    clear c3
    obtain rfl := Option.some.inj H
    go_enter Tryz.func5, Tryz.ntmps5
    go_wp2
    go_ret
    exact ⟨by first | rfl | (simp; done) | (simp [*]; done) | (simp [isEmpty_bne]; done) | (simp [i64_w]; done) | (simp only [i64_w]; done), by repeat (first | exact Drawn0.refl _ | apply Drawn0.step)⟩
/-! ### slices_IndexFunc_int_int: function 114 -/
set_option maxHeartbeats 2000000 in
theorem idx_int (A : Option Addr) (c : Nat) (l : List Int) (g : Nat) (lb : Array Value) (pf : Int → Option Bool) (w : World) (r : Int)
    (hr : Kd.C (Kd.int .i64) w A l.length l) (hc : l.length ≤ c) (hbig : l.length ≤ 9223372036854775807)
    (eg : ∀ args w, (callFunc g args).run Tryz.prog w = .ok (.enter g args) w)
    (hp : ∀ (W : World) (x : Int) (b : Bool), Below w.heap.size w W → pf x = some b → Calls Tryz.prog g (#[.int .i64 x] ++ lb) W fun e w' => e = .returned (.bool b) ∧ Below W.heap.size W w')
    (h : idxO pf l 0 = some r) :
    Calls Tryz.prog 114 #[.slice A l.length c, .func (.func g) #[] lb] w fun e w' => e = .returned (.int .i64 r) ∧ Below w.heap.size w w' := by
  have HR := Aside0.mk hr
  have HP := Aside0.mk hp
  have H := Aside0.mk h
  clear hr hp h
  go_enter Tryz.func114, Tryz.ntmps114
  go_wp2
  go_loopg [5, 8] l.length (fun gg _ s8 wr => ∃ kk : Nat, kk ≤ l.length ∧ l.length - kk ≤ gg ∧ s8 = .int .i64 kk ∧ Aside0 (Below w.heap.size w wr) ∧ Aside0 (idxO pf (l.drop kk) kk = some r))
  case atStart => exact ⟨0, Nat.zero_le _, by omega, rfl, ⟨Below.refl _ w⟩, ⟨H.out⟩⟩
  case round =>
    obtain ⟨kk, hkk, hg, rfl, BW, HK⟩ := hrel
    have HRw := Kd.C_below HR.out BW.out
    by_cases hlt : kk < l.length
    · have hltz : (kk : Int) < (l.length : Int) := by omega
      obtain ⟨ad, hA, h0⟩ := Kd.at_int HRw (kk : Int) (by omega) (by omega)
      subst hA
      have hx : rd l (kk : Int) = l[kk] := by simp [rd, hlt]
      have e := HK.out
      rw [drop_cons hlt] at e
      simp only [idxO] at e
      replace e := Option.bind_eq_some_iff.mp e
      obtain ⟨b, hb, e⟩ := e
      rw [hx] at h0
      simp only [Int.toNat_natCast] at h0
      have hcall := HP.out wr _ b BW.out hb
      clear hx hb
      clear HRw
      generalize l[kk] = y at h0 hcall
      have E := Aside0.mk e
      clear e
      cases b with
      | true =>
        go_wp2_with fail
        refine hcall.mono ?_
        rintro e w' ⟨rfl, hb'⟩
        go_wp2_with fail
        go_ret
        exact ⟨by have := E.out; simp at this; subst this; rfl, BW.out.trans (hb'.mono BW.out.size)⟩
      | false =>
        go_wp2_with fail
        refine hcall.mono ?_
        rintro e w' ⟨rfl, hb'⟩
        go_wp2_with fail
        go_roundg (l.length - (kk + 1))
        case measure => omega
        case rel =>
          refine ⟨kk + 1, by omega, by omega, by go_num, ⟨BW.out.trans (hb'.mono BW.out.size)⟩, ⟨?_⟩⟩
          have := E.out; simp at this; rw [show ((kk + 1 : Nat) : Int) = (kk : Int) + 1 by omega]; exact this
    · have hd : decide ((kk : Int) < (l.length : Int)) = false := by simp; omega
      have e := HK.out
      rw [List.drop_of_length_le (by omega)] at e
      simp only [idxO, Option.some.injEq] at e
      have E := Aside0.mk e
      clear e
      go_wp2
      go_ret
      exact ⟨by have := E.out; subst this; rfl, BW.out⟩
/-! ### slices_ContainsFunc_int_int: function 71 -/
set_option maxHeartbeats 2000000 in
theorem any_int (A : Option Addr) (c : Nat) (l : List Int) (g : Nat) (lb : Array Value) (pf : Int → Option Bool) (w : World) (r : Bool)
    (hr : Kd.C (Kd.int .i64) w A l.length l) (hc : l.length ≤ c) (hbig : l.length ≤ 9223372036854775807)
    (eg : ∀ args w, (callFunc g args).run Tryz.prog w = .ok (.enter g args) w)
    (hp : ∀ (W : World) (x : Int) (b : Bool), Below w.heap.size w W → pf x = some b → Calls Tryz.prog g (#[.int .i64 x] ++ lb) W fun e w' => e = .returned (.bool b) ∧ Below W.heap.size W w')
    (h : anyO pf l = some r) :
    Calls Tryz.prog 71 #[.slice A l.length c, .func (.func g) #[] lb] w fun e w' => e = .returned (.bool r) ∧ Below w.heap.size w w' := by
  obtain ⟨j, hj, e⟩ := idxO_any pf l 0 (by omega) r h
  have hcall := idx_int A c l g lb pf w j hr hc hbig eg hp hj
  have E := Aside0.mk e
  clear e h hj hr hp eg
  go_enter Tryz.func71, Tryz.ntmps71
  go_wp2_with fail
  refine hcall.mono ?_
  rintro e w' ⟨rfl, hb⟩
  go_wp2
  go_ret
  exact ⟨by have := E.out; subst this; rfl, hb⟩
/-! ### impl_in: function 73 -/
def impl_in.f (a0 : Int) (a1 : Int) (a2 : Int) : Option (Bool) := if a0 ≥ a1 then (some (decide (a0 ≤ a2))) else (some false)
set_option maxHeartbeats 8000000 in
set_option maxRecDepth 100000 in
theorem impl_in.calls (a0 : Int) (a1 : Int) (a2 : Int) (r : Bool) (w : World) (h : impl_in.f a0 a1 a2 = some r) :
    Calls Tryz.prog 73 #[.int .i64 a0, .int .i64 a1, .int .i64 a2] w fun e w' => e = .returned (.bool r) ∧ Drawn0 w w' := by
  have H : (if a0 ≥ a1 then (some (decide (a0 ≤ a2))) else (some false)) = some r := h
  clear h
  by_cases c4 : a0 ≥ a1
  · rw [if_pos c4] at H
    have c4b0 : decide (a1 ≤ a0) = true := decide_eq_true c4
    clear c4
    obtain rfl := Option.some.inj H
    go_enter Tryz.func73, Tryz.ntmps73
    go_wp2
    go_ret
    exact ⟨by first | rfl | (simp; done) | (simp [*]; done) | (simp [isEmpty_bne]; done) | (simp [i64_w]; done) | (simp only [i64_w]; done), by repeat (first | exact Drawn0.refl _ | apply Drawn0.step)⟩
  · rw [if_neg c4] at H
    have c4b0 : decide (a1 ≤ a0) = false := decide_eq_false c4
    clear c4
    obtain rfl := Option.some.inj H
    go_enter Tryz.func73, Tryz.ntmps73
    go_wp2
    go_ret
    exact ⟨by first | rfl | (simp; done) | (simp [*]; done) | (simp [isEmpty_bne]; done) | (simp [i64_w]; done) | (simp only [i64_w]; done), by repeat (first | exact Drawn0.refl _ | apply Drawn0.step)⟩
/-! ### impl_IsScheme_1: function 72 -/
set_option maxHeartbeats 2000000 in
/-- the closure of IsScheme: s lies in block B -/
theorem impl_IsScheme_1.calls (B : Nat) (m : Int) (x : Int) (b : Bool) (W : World) (h0 : W.cell? ⟨B, 0, none⟩ = some (.int .i64 m))
    (h : impl_in.f x 0 (wrap64 (m - 1)) = some (!b)) :
    Calls Tryz.prog 72 #[.int .i64 x, .pointer (some ⟨B, 0, none⟩)] W fun e w' => e = .returned (.bool b) ∧ Below W.heap.size W w' := by
  have hcall := fun w => impl_in.calls x 0 (wrap64 (m - 1)) (!b) w h
  clear h
  go_enter Tryz.func72, Tryz.ntmps72
  go_wp2_with fail
  refine (hcall _).mono ?_
  rintro e w' ⟨rfl, ⟨n, rfl⟩⟩
  go_wp2
  go_ret
  exact ⟨by simp, pw_below_drewN (Below.refl _ _) _⟩
/-! ### impl_IsScheme: function 18 -/
def impl_IsScheme.f (a0_0 : Int) (l0_1 : List Int) : Option Bool :=
  (anyO (fun x => (impl_in.f x 0 (wrap64 (a0_0 - 1))).map (!·)) l0_1).bind fun b => if l0_1.length ≤ 140737488355327 then some (decide (2 ≤ a0_0) && decide (a0_0 ≤ 13) && (decide (1 ≤ (l0_1.length : Int)) && decide ((l0_1.length : Int) ≤ 12)) && !b) else none
set_option maxHeartbeats 4000000 in
theorem impl_IsScheme.calls (a0_0 : Int) (A0_1 : Option Addr) (c0_1 : Nat) (l0_1 : List Int) (r : Bool) (w : World) (hr0_1 : Kd.C (Kd.int .i64) w A0_1 l0_1.length l0_1) (hc0_1 : l0_1.length ≤ c0_1) (h : impl_IsScheme.f a0_0 l0_1 = some r) :
    Calls Tryz.prog 18 #[.agg #[.int .i64 a0_0, .slice A0_1 l0_1.length c0_1]] w fun e w' => e = .returned (.bool r) ∧ Below w.heap.size w w' := by
  replace h := Option.bind_eq_some_iff.mp h
  obtain ⟨b, hb, h⟩ := h
  split at h
  · rename_i hbig
    have hinf : ∀ a b c : Int, impl_in.f a b c = some (decide (b ≤ a) && decide (a ≤ c)) := by
      intro a b c
      unfold impl_in.f
      by_cases h2 : a ≥ b <;> by_cases h3 : a ≤ c <;> simp [h2, h3]
    have hin1 := fun w => impl_in.calls a0_0 2 13 (decide (2 ≤ a0_0) && decide (a0_0 ≤ 13)) w (hinf _ _ _)
    have hin2 := fun w => impl_in.calls (l0_1.length : Int) 1 12 (decide (1 ≤ (l0_1.length : Int)) && decide ((l0_1.length : Int) ≤ 12)) w (hinf _ _ _)
    have hany := any_int A0_1 c0_1 l0_1 72 #[.pointer (some ⟨w.heap.size, 0, none⟩)] _ (w.alloc (.cells #[.int .i64 a0_0, .slice A0_1 l0_1.length c0_1] 26)) b
      (Kd.C_below hr0_1 ((Below.refl _ w).alloc (Nat.le_refl _) _)) hc0_1 (by omega) (enters_of Tryz.func72 (by kernel_rfl) rfl)
      (fun W x b hW hx => impl_IsScheme_1.calls w.heap.size a0_0 x b W ((hW.cell (p := ⟨w.heap.size, 0, none⟩) (by simp)).trans (by simp)) (by obtain ⟨y, hy, hz⟩ := Option.map_eq_some_iff.mp hx; rw [hy, ← hz]; simp)) hb
    have H := Aside0.mk h
    clear h hb hr0_1 hinf
    go_enter Tryz.func18, Tryz.ntmps18
    go_wp2_with fail
    refine hany.mono ?_
    rintro e w1 ⟨rfl, hb1⟩
    have hc0 : w1.cell? ⟨w.heap.size, 0, none⟩ = some (.int .i64 a0_0) := (hb1.cell (p := ⟨w.heap.size, 0, none⟩) (by simp)).trans (by simp)
    have hc1 : w1.cell? ⟨w.heap.size, 1, none⟩ = some (.slice A0_1 l0_1.length c0_1) := (hb1.cell (p := ⟨w.heap.size, 1, none⟩) (by simp)).trans (by simp)
    clear hany
    generalize hq : (decide (2 ≤ a0_0) && decide (a0_0 ≤ 13)) = q at hin1 H
    generalize hp : (decide (1 ≤ (l0_1.length : Int)) && decide ((l0_1.length : Int) ≤ 12)) = p at hin2 H
    clear hq hp
    have hb2 : Below w.heap.size w w1 := ((Below.refl _ w).alloc (Nat.le_refl _) _).trans (hb1.mono (by simp))
    go_wp2_with fail
    refine (hin1 _).mono ?_
    rintro e w2 ⟨rfl, ⟨n, rfl⟩⟩
    have hc1' : (w1.drewN n).cell? ⟨w.heap.size, 1, none⟩ = some (.slice A0_1 l0_1.length c0_1) := hc1
    have hb3 := pw_below_drewN hb2 n
    clear hc0 hc1
    cases q with
    | false =>
      go_wp2
      go_ret
      exact ⟨by have e := Option.some.inj H.out; rw [← e]; simp, hb3⟩
    | true =>
      go_wp2_with fail
      refine (hin2 _).mono ?_
      rintro e w3 ⟨rfl, ⟨n2, rfl⟩⟩
      cases p with
      | false =>
        go_wp2
        go_ret
        exact ⟨by have e := Option.some.inj H.out; rw [← e]; simp, pw_below_drewN hb2 _⟩
      | true =>
        go_wp2
        go_ret
        exact ⟨by have e := Option.some.inj H.out; rw [← e]; simp, pw_below_drewN hb2 _⟩
  · exact absurd h (by simp)
/-- A state of type 26 at block g of W; what its slices lead to came in by w0. -/
def IsS26 (w0 W : World) (g : Nat) (f0 : Int) (f1 : List Int) : Prop := ∃ A1 c1, W.heap[g]? = some (.cells #[.int .i64 f0, .slice A1 f1.length c1] 26 (0, 0)) ∧ w0.heap.size ≤ g ∧ Kd.C (Kd.int .i64) w0 A1 f1.length f1
theorem IsS26.grown {w0 W : World} {g : Nat} {f0 : Int} {f1 : List Int} {W1 : World} {row : Option Nat} (h : IsS26 w0 W g f0 f1) (hw : W.grownBy W1 row) (hne : some g ≠ row) : IsS26 w0 W1 g f0 f1 := by
 obtain ⟨A1, c1, hb, hg, hr1⟩ := h
 exact ⟨A1, c1, blk_grown hb hw hne, hg, hr1⟩
theorem IsS26.kept {w0 W : World} {g : Nat} {f0 : Int} {f1 : List Int} {W1 : World} {S : Nat → Prop} (h : IsS26 w0 W g f0 f1) (hk : Kept W W1 S) (hne : ¬ S g) : IsS26 w0 W1 g f0 f1 := by
 obtain ⟨A1, c1, hb, hg, hr1⟩ := h
 exact ⟨A1, c1, blk_kept hb hk hne, hg, hr1⟩
theorem IsS26.below {w0 W : World} {g : Nat} {f0 : Int} {f1 : List Int} {W1 : World} (h : IsS26 w0 W g f0 f1) (hw : Below W.heap.size W W1) : IsS26 w0 W1 g f0 f1 := h.grown (grown_of_below hw none) (by simp)
theorem IsS26.alloc {w0 W : World} {g : Nat} {f0 : Int} {f1 : List Int} (h : IsS26 w0 W g f0 f1) (o : Obj) : IsS26 w0 (W.alloc o) g f0 f1 := h.below (below_alloc (Below.refl _ _) o)
theorem IsS26.drewN {w0 W : World} {g : Nat} {f0 : Int} {f1 : List Int} (h : IsS26 w0 W g f0 f1) (m : Nat) : IsS26 w0 (W.drewN m) g f0 f1 := h
theorem IsS26.drew {w0 W : World} {g : Nat} {f0 : Int} {f1 : List Int} (h : IsS26 w0 W g f0 f1) : IsS26 w0 W.drew g f0 f1 := h
theorem IsS26.at_ {w0 W : World} {g : Nat} {f0 : Int} {f1 : List Int} {w' : World} {m : Nat} (hq : W.drewN m = w') (h : IsS26 w0 W g f0 f1) : IsS26 w0 w' g f0 f1 := by subst hq; exact IsS26.drewN h m
theorem IsS26.apart {w0 W : World} {g : Nat} {f0 : Int} {f1 : List Int} {α : Type} {d : Kd α} {e : Nat} {base : Nat} {ok : Nat → Prop} {v : Value} {xs : List α} (h : IsS26 w0 W g f0 f1) (ho : d.R e W base ok v xs) (ht : ∀ q, q ∈ e :: d.E → q ≠ 26) : d.R e W base (fun k => ok k ∧ k ≠ g) v xs := by
 obtain ⟨A1, c1, hb, hg, hr1⟩ := h
 exact Kd.R_types ho hb ht
theorem IsS26.own_ne {w0 W : World} {g : Nat} {f0 : Int} {f1 : List Int} {α : Type} {d : Kd α} {e : Nat} {base : Nat} {ok : Nat → Prop} {v : Value} {xs : List α} (h : IsS26 w0 W g f0 f1) (ho : d.R e W base ok v xs) (ht : e ≠ 26) : some g ≠ v.ownBlock := by
 obtain ⟨A1, c1, hb, hg, hr1⟩ := h
 exact Kd.R_ne ho hb ht
theorem IsS26.lt {w0 W : World} {g : Nat} {f0 : Int} {f1 : List Int} (h : IsS26 w0 W g f0 f1) : g < W.heap.size := by
 obtain ⟨A1, c1, hb, hg, hr1⟩ := h
 exact blk_lt hb
theorem IsS26.ge {w0 W : World} {g : Nat} {f0 : Int} {f1 : List Int} (h : IsS26 w0 W g f0 f1) : w0.heap.size ≤ g := by
 obtain ⟨A1, c1, hb, hg, hr1⟩ := h
 exact hg
theorem IsS26.ne_blk {w0 W : World} {g : Nat} {f0 : Int} {f1 : List Int} {a : Nat} {cs : Array Value} {t : TypeId} {fr : Nat × Nat} (h : IsS26 w0 W g f0 f1) (hb2 : W.heap[a]? = some (.cells cs t fr)) (ht : t ≠ 26) : g ≠ a := by
 obtain ⟨A1, c1, hb, hg, hr1⟩ := h
 rintro rfl
 rw [hb] at hb2
 injection hb2 with hb2
 injection hb2 with _ ht2
 exact ht ht2.symm
theorem IsS26.far {w0 W : World} {g : Nat} {f0 : Int} {f1 : List Int} {p : Addr} (h : IsS26 w0 W g f0 f1) (hne : g ≠ p.block) (u : Value) : IsS26 w0 (W.setCell p u) g f0 f1 := by
 obtain ⟨A1, c1, hb, hg, hr1⟩ := h
 exact ⟨A1, c1, blk_far hb hne u, hg, hr1⟩
theorem cellS26_0 {W : World} {g : Nat} {A1 : Option Addr} {c1 : Nat} {f0 : Int} {f1 : List Int} (h : W.heap[g]? = some (.cells #[.int .i64 f0, .slice A1 f1.length c1] 26 (0, 0))) : W.cell? ⟨g, 0, none⟩ = some (.int .i64 f0) := (blk_cell h 0).trans rfl
theorem IsS26.set_0 {w0 W : World} {g : Nat} {f0 : Int} {f1 : List Int} (h : IsS26 w0 W g f0 f1) (x : Int) : IsS26 w0 (W.setCell ⟨g, 0, none⟩ (.int .i64 x)) g x f1 := by
 obtain ⟨A1, c1, hb, hg, hr1⟩ := h
 exact ⟨A1, c1, by simpa using blk_set hb 0 (.int .i64 x), hg, hr1⟩
theorem cellS26_1 {W : World} {g : Nat} {A1 : Option Addr} {c1 : Nat} {f0 : Int} {f1 : List Int} (h : W.heap[g]? = some (.cells #[.int .i64 f0, .slice A1 f1.length c1] 26 (0, 0))) : W.cell? ⟨g, 1, none⟩ = some (.slice A1 f1.length c1) := (blk_cell h 1).trans rfl
/-! ### impl_Scheme_check: function 83 -/
def impl_Scheme_check.f (s0_0 : Int) (s0_1 : List Int) (a1 : Int) : Option (Int × Int) := if s0_0 = 0 then (none) else (some (Int.tmod (wrap64 (s0_0 - (Int.tmod a1 s0_0))) s0_0, s0_0))
set_option maxHeartbeats 8000000 in
set_option maxRecDepth 100000 in
theorem impl_Scheme_check.calls (g : Nat) (s0_0 : Int) (s0_1 : List Int) (a1 : Int) (r1 : Int) (r2 : Int) (w0 w : World) (hI : IsS26 w0 w g s0_0 s0_1) (hB : Below w0.heap.size w0 w) (h : impl_Scheme_check.f s0_0 s0_1 a1 = some (r1, r2)) :
  Calls Tryz.prog 83 #[.pointer (some ⟨g, 0, none⟩), .int .i64 a1] w fun e w' => e = .returned (.int .i64 r1) ∧ IsS26 w0 w' g r2 s0_1 ∧ Below w0.heap.size w0 w' ∧ KeepBut w w' g none := by
 have HI0 := Aside0.mk hI
 have HK := Aside0.mk (KeepBut.refl w g none)
 have HL := Aside0.mk hB.size
 clear hI
 have HW0 := Aside0.mk hB.size
 have HB := Aside0.mk hB
 clear hB
 have H : (if s0_0 = 0 then (none) else (some (Int.tmod (wrap64 (s0_0 - (Int.tmod a1 s0_0))) s0_0, s0_0))) = some (r1, r2) := h
 clear h
 by_cases c3 : s0_0 = 0
 ·
  rw [if_pos c3] at H
  exact absurd H (by simp)
 ·
  rw [if_neg c3] at H
  have c3b0 : (s0_0 == 0) = false := beq_eq_false_iff_ne.mpr c3
  have c3b1 : (s0_0 != 0) = true := bne_iff_ne.mpr c3
  simp only [Option.some.injEq, Prod.mk.injEq] at H
  obtain ⟨rfl, rfl⟩ := H
  obtain ⟨ASz4_1, cSz4_1, HGz4, hgz4, HSz4_1⟩ := HI0.out
  have hcz4_0 := cellS26_0 HGz4
  have hcz4_1 := cellS26_1 HGz4
  have hfz4_0 := blk_frozen HGz4 0
  clear HGz4 hgz4
  go_enter Tryz.func83, Tryz.ntmps83
  go_wp2
  repeat (go_quiet (fail); try go_wp2)
  go_ret
  exact ⟨by first | rfl | (simp [errW_none, errW_some] <;> rfl) | (simp [*, errW_none, errW_some] <;> rfl), by repeat (first | (with_reducible first | exact HI0.out | apply IsS26.alloc | apply IsS26.drewN | apply IsS26.drew | apply IsS26.set_0) | exact HI0.out), by repeat (first | (with_reducible first | exact HB.out | apply below_alloc | apply pw_below_drewN | apply below_drew1 | refine below_set ?_ (IsS26.ge HI0.out)) | exact HB.out), by repeat (first | (with_reducible first | exact HK.out | apply KeepBut.set_ | apply keep_drewN | apply keep_drew | apply keep_alloc) | exact HK.out)⟩
/-! ### impl_Scheme_checks: function 65 -/
def impl_Scheme_checks.l0 : Nat → List Int → Int → Int → List Int → Option (List Int × Int)
 | 0, _, _, _, _ => none
 | k + 1, x5, x6, x1000, x1001 => if x6 ≤ 10 then (if x5.length < 17592186044416 then (impl_Scheme_checks.l0 k (x5 ++ [x6]) (wrap64 (x6 + x1000)) x1000 x1001) else (none)) else (some (x5, x1000))
def impl_Scheme_checks.f (k : Nat) (s0_0 : Int) (s0_1 : List Int) (a1 : Int) : Option (List Int × Int) := (impl_Scheme_check.f s0_0 s0_1 a1).bind fun bt104 => (impl_Scheme_checks.l0 k (([] : List Int)) bt104.1 bt104.2 s0_1)
theorem impl_Scheme_checks.mono_l : ∀ k, (∀ y0 y1 y2 y3, LeO (impl_Scheme_checks.l0 k y0 y1 y2 y3) (impl_Scheme_checks.l0 (k + 1) y0 y1 y2 y3))
 | 0 => fun _ _ _ _ r h => by simp [impl_Scheme_checks.l0] at h
 | k + 1 => by
  have ih0 := impl_Scheme_checks.mono_l k
  ·
   intro y0 y1 y2 y3
   unfold impl_Scheme_checks.l0
   repeat' first
   | (with_reducible exact ih0 _ _ _ _)
   | (with_reducible exact LeO.refl _)
   | (with_reducible exact LeO.none _)
   | (with_reducible refine LeO.ite ?_ ?_)
   | (with_reducible refine LeO.bind ?_ (fun _ => ?_))
   | exact ih0 _ _ _ _
   | exact LeO.none _
   | refine LeO.ite ?_ ?_
   | refine LeO.bind ?_ (fun _ => ?_)
theorem impl_Scheme_checks.mono : ∀ a0 a1 a2 k, LeO (impl_Scheme_checks.f k a0 a1 a2) (impl_Scheme_checks.f (k + 1) a0 a1 a2) := by
 intro a0 a1 a2 k
 have ih0 := impl_Scheme_checks.mono_l k
 unfold impl_Scheme_checks.f
 repeat' first
   | (with_reducible exact ih0 _ _ _ _)
   | (with_reducible exact LeO.refl _)
   | (with_reducible exact LeO.none _)
   | (with_reducible refine LeO.ite ?_ ?_)
   | (with_reducible refine LeO.bind ?_ (fun _ => ?_))
   | exact ih0 _ _ _ _
   | exact LeO.none _
   | refine LeO.ite ?_ ?_
   | refine LeO.bind ?_ (fun _ => ?_)
set_option maxHeartbeats 8000000 in
set_option maxRecDepth 100000 in
theorem impl_Scheme_checks.calls (k : Nat) (g : Nat) (s0_0 : Int) (s0_1 : List Int) (a1 : Int) (r1 : List Int) (r2 : Int) (w0 w : World) (hI : IsS26 w0 w g s0_0 s0_1) (hB : Below w0.heap.size w0 w) (h : impl_Scheme_checks.f k s0_0 s0_1 a1 = some (r1, r2)) :
  Calls Tryz.prog 65 #[.pointer (some ⟨g, 0, none⟩), .int .i64 a1] w fun e w' => ∃ v0_ : Value, e = .returned (v0_) ∧ Kd.R (Kd.int .i64) 3 w' w.heap.size (fun _ => True) v0_ r1 ∧ IsS26 w0 w' g r2 s0_1 ∧ Below w0.heap.size w0 w' ∧ KeepBut w w' g none := by
 have HI0 := Aside0.mk hI
 have HK := Aside0.mk (KeepBut.refl w g none)
 have HL := Aside0.mk hB.size
 clear hI
 have HW0 := Aside0.mk hB.size
 have HB := Aside0.mk hB
 clear hB
 have H : ((impl_Scheme_check.f s0_0 s0_1 a1).bind fun bt104 => (impl_Scheme_checks.l0 k (([] : List Int)) bt104.1 bt104.2 s0_1)) = some (r1, r2) := h
 clear h
 obtain ⟨y101, hy101⟩ : ∃ y_ : List Int, y_ = (([] : List Int)) := ⟨_, rfl⟩
 replace H : ((impl_Scheme_check.f s0_0 s0_1 a1).bind fun bt104 => (impl_Scheme_checks.l0 k y101 bt104.1 bt104.2 s0_1)) = some (r1, r2) := by first | (rw [hy101]; with_reducible exact H) | (have H2_ := (Option.bind_some _ _).symm.trans H; rw [hy101]; with_reducible exact H2_) | (have H2_ := (Option.bind_some _ _).symm.trans H; with_reducible exact H2_) | with_reducible exact H | (rw [hy101]; exact H) | exact H
 have Ny101 := Aside0.mk hy101
 clear hy101
 replace H := Option.bind_eq_some_iff.mp H
 obtain ⟨⟨t104, t105⟩, A30, H⟩ := H
 replace H : (impl_Scheme_checks.l0 k y101 t104 t105 s0_1) = some (r1, r2) := H
 have A3 := Aside0.mk A30
 clear A30
 have H' := Aside0.mk H
 clear H
 go_enter Tryz.func65, Tryz.ntmps65
 go_wp2_with (first | ((with_reducible refine gate_dst (N := 7) rfl ?_); refine Kd.R_lit (Kd.int .i64) _ 3 ?hg (N := 7) ?hd (xs := ([] : List Int)) (inner := []) (ok := fun _ => True) (okp := fun _ => True) ?hr ?hp (fun _ hk => hk) trivial (Below.refl _ _) (Nat.le_refl _) (by simp) ?_; (case hd => rfl); (case hg => rfl); (case hr => first | (go_simp; done) | (go_simp; rfl)); (case hp => exact (Reps.none _ _)); intro v102 w4 ho5 hb hg_ hnew_; clear hg_ hnew_; (first | rw [← Ny101.out] at ho5 | (simp only [Int.reduceToNat] at ho5; rw [← Ny101.out] at ho5)); have n0_ := Aside0.mk (Kd.R_lower ho5 (keep_size (w := w) (g := g) (row := none) (by repeat (first | (with_reducible first | exact HK.out | apply KeepBut.set_ | apply keep_drewN | apply keep_drew | apply keep_alloc) | exact HK.out)))); have n1_ := Aside0.mk (IsS26.below (by repeat (first | (with_reducible first | exact HI0.out | apply IsS26.alloc | apply IsS26.drewN | apply IsS26.drew | apply IsS26.set_0) | exact HI0.out)) hb); have n2_ := Aside0.mk (KeepBut.trans (by repeat (first | (with_reducible first | exact HK.out | apply KeepBut.set_ | apply keep_drewN | apply keep_drew | apply keep_alloc) | exact HK.out)) (KeepBut.of_below hb g none) (.inl rfl)); have n3_ := Aside0.mk (below_step (by repeat (first | (with_reducible first | exact HB.out | apply below_alloc | apply pw_below_drewN | apply below_drew1 | refine below_set ?_ (IsS26.ge HI0.out)) | exact HB.out)) hb); clear HI0; clear HK; clear HB; have HO103 := n0_; have HI0 := n1_; have HK := n2_; have HB := n3_; clear n0_ n1_ n2_ n3_; clear hb ho5) | ((with_reducible refine gate_callee (f := 83) rfl ?_); refine goesL_ (some 10) rfl rfl Tryz.func83 (by kernel_rfl) rfl #[.pointer (some ⟨g, 0, none⟩), .int .i64 a1] rfl (by (try simp only [List.map_toArray, List.map_cons, List.map_nil]); first | done | rfl | (simp only [List.length_drop, List.length_take]; rfl)) ?_; (with_reducible refine (impl_Scheme_check.calls g s0_0 s0_1 a1 t104 t105 w0 _ ?side1 ?side2 A3.out).mono ?_); (case side1 => repeat (first | (with_reducible first | exact HI0.out | apply IsS26.alloc | apply IsS26.drewN | apply IsS26.drew | apply IsS26.set_0) | exact HI0.out)); (case side2 => repeat (first | (with_reducible first | exact HB.out | apply below_alloc | apply pw_below_drewN | apply below_drew1 | refine below_set ?_ (IsS26.ge HI0.out)) | exact HB.out)); rintro e w6 ⟨rfl, hi, hb, hk⟩; refine ⟨_, rfl, ?_⟩; have n0_ := Aside0.mk (Kd.R_mono (Kd.R_keep (IsS26.apart (show IsS26 w0 _ g s0_0 s0_1 from by repeat (first | (with_reducible first | exact HI0.out | apply IsS26.alloc | apply IsS26.drewN | apply IsS26.drew | apply IsS26.set_0) | exact HI0.out)) (qr HO103.out) (by decide)) hk (fun _ h => h.2)) (fun _ h => h.1)); have n1_ := Aside0.mk (KeepBut.trans (by repeat (first | (with_reducible first | exact HK.out | apply KeepBut.set_ | apply keep_drewN | apply keep_drew | apply keep_alloc) | exact HK.out)) hk (.inl rfl)); have n2_ := Aside0.mk (hb); have n3_ := Aside0.mk (hi); clear HO103; clear HK; clear HB; clear HI0; have HO103 := n0_; have HK := n1_; have HB := n2_; have HI0 := n3_; clear n0_ n1_ n2_ n3_; (try clear hb); (try clear hb2); (try clear hk); (try clear hi)))
 go_loopg [5, 6] k (fun kq v5 v6 w' => ∃ (x5_1 : List Int) (x6_1 : Int), v6 = .int .i64 x6_1 ∧ Aside0 (impl_Scheme_checks.l0 kq x5_1 x6_1 t105 s0_1 = some (r1, r2)) ∧ Aside0 (kq ≤ k) ∧ Aside0 (Kd.R (Kd.int .i64) 3 w' w.heap.size (fun _ => True) v5 x5_1) ∧ Aside0 (IsS26 w0 w' g t105 s0_1) ∧ Aside0 (KeepBut w w' g none) ∧ Aside0 (Below w0.heap.size w0 w'))
 case atStart => exact ⟨(y101), (t104), (by first | rfl | (simp; done) | (simp [*]; done) | (simp [isEmpty_bne]; done) | (simp [i64_w]; done) | (simp only [i64_w]; done)), H', ⟨Nat.le_refl _⟩, ⟨by (with_reducible repeat (first | apply Kd.R_alloc | apply Kd.R_drewN | apply Kd.R_drew)); exact HO103.out⟩, ⟨by repeat (first | (with_reducible first | exact HI0.out | apply IsS26.alloc | apply IsS26.drewN | apply IsS26.drew | apply IsS26.set_0) | exact HI0.out)⟩, ⟨by repeat (first | (with_reducible first | exact HK.out | apply KeepBut.set_ | apply keep_drewN | apply keep_drew | apply keep_alloc) | exact HK.out)⟩, ⟨by repeat (first | (with_reducible first | exact HB.out | apply below_alloc | apply pw_below_drewN | apply below_drew1 | refine below_set ?_ (IsS26.ge HI0.out)) | exact HB.out)⟩⟩
 case round =>
  clear H'
  try clear p2
  try clear c6
  obtain ⟨x5_1, x6_1, rfl, HA, HK1, HO_5, HI0, HK, HB⟩ := hrel
  cases gk with
  | zero => exact absurd HA.out (by simp [impl_Scheme_checks.l0])
  | succ k1 =>
   have H := HA.out
   clear HA
   simp only [impl_Scheme_checks.l0] at H
   by_cases c7 : x6_1 ≤ 10
   ·
    rw [if_pos c7] at H
    have c7b0 : decide (x6_1 ≤ 10) = true := decide_eq_true c7
    clear c7
    by_cases c8 : x5_1.length < 17592186044416
    ·
     rw [if_pos c8] at H
     have LMc8 := Aside0.mk c8
     clear c8
     obtain ⟨y106, hy106⟩ : ∃ y_ : List Int, y_ = (x5_1 ++ [x6_1]) := ⟨_, rfl⟩
     replace H : (impl_Scheme_checks.l0 k1 y106 (wrap64 (x6_1 + t105)) t105 s0_1) = some (r1, r2) := by first | (rw [hy106]; with_reducible exact H) | (have H2_ := (Option.bind_some _ _).symm.trans H; rw [hy106]; with_reducible exact H2_) | (have H2_ := (Option.bind_some _ _).symm.trans H; with_reducible exact H2_) | with_reducible exact H | (rw [hy106]; exact H) | exact H
     have Ny106 := Aside0.mk hy106
     clear hy106
     have H' := Aside0.mk H
     clear H
     go_wp2_with (first | ((with_reducible refine gate_builtin (b := .append) (xs := #[.tmp 19, .tmp 21]) rfl ?_); at_builtin; refine Kd.R_append (Kd.int .i64) w.heap.size rfl (.tmp 19) (.tmp 21) 24 3 (.int .i64 0) 8 rfl Tryz.underlying24 info3 rfl (by decide) (by omega) u5 x5_1 x6_1 [.int .i64 x6_1] (fun _ => True) (fun _ => False) rfl rfl ?aP (fun _ hk => hk.elim) ?aF ?aO (Below.refl _ _) ?aS ?aL ?_; (case aP => exact rfl); (case aF => exact (fun _ _ => trivial)); (case aO => exact (qr HO_5.out)); (case aS => exact (keep_size (w := w) (g := g) (row := none) (by repeat (first | (with_reducible first | exact HK.out | apply KeepBut.set_ | apply keep_drewN | apply keep_drew | apply keep_alloc) | exact HK.out)))); (case aL => have := LMc8.out; omega); intro v107 w9 ho hb hg hat; rw [← Ny106.out] at ho; have n0_ := Aside0.mk (IsS26.grown (by repeat (first | (with_reducible first | exact HI0.out | apply IsS26.alloc | apply IsS26.drewN | apply IsS26.drew | apply IsS26.set_0) | exact HI0.out)) hg (IsS26.own_ne HI0.out HO_5.out (by decide))); have n1_ := Aside0.mk (below_weaken (by repeat (first | (with_reducible first | exact HB.out | apply below_alloc | apply pw_below_drewN | apply below_drew1 | refine below_set ?_ (IsS26.ge HI0.out)) | exact HB.out)) HL.out hb); have n2_ := Aside0.mk (KeepBut.trans (by repeat (first | (with_reducible first | exact HK.out | apply KeepBut.set_ | apply keep_drewN | apply keep_drew | apply keep_alloc) | exact HK.out)) (KeepBut.of_grown hg g) (Kd.R_base2 HO_5.out)); have n3_ := Aside0.mk (ho); clear HI0; clear HB; clear HK; clear HO_5; have HI0 := n0_; have HB := n1_; have HK := n2_; have HO108 := n3_; clear n0_ n1_ n2_ n3_; clear ho hb hg hat; obtain ⟨ASz10_1, cSz10_1, HGz10, hgz10, HSz10_1⟩ := HI0.out; have hcz10_0 := cellS26_0 HGz10; have hcz10_1 := cellS26_1 HGz10; have hfz10_0 := blk_frozen HGz10 0; clear HGz10 hgz10))
     go_roundg k1
     case measure => have := HK1.out; omega
     case rel => exact ⟨(y106), (wrap64 (x6_1 + t105)), (by first | rfl | (simp; done) | (simp [*]; done) | (simp [isEmpty_bne]; done) | (simp [i64_w]; done) | (simp only [i64_w]; done)), H', ⟨by have := HK1.out; omega⟩, ⟨by (with_reducible repeat (first | apply Kd.R_alloc | apply Kd.R_drewN | apply Kd.R_drew)); exact HO108.out⟩, ⟨by repeat (first | (with_reducible first | exact HI0.out | apply IsS26.alloc | apply IsS26.drewN | apply IsS26.drew | apply IsS26.set_0) | exact HI0.out)⟩, ⟨by repeat (first | (with_reducible first | exact HK.out | apply KeepBut.set_ | apply keep_drewN | apply keep_drew | apply keep_alloc) | exact HK.out)⟩, ⟨by repeat (first | (with_reducible first | exact HB.out | apply below_alloc | apply pw_below_drewN | apply below_drew1 | refine below_set ?_ (IsS26.ge HI0.out)) | exact HB.out)⟩⟩
    ·
     rw [if_neg c8] at H
     exact absurd H (by simp)
   ·
    rw [if_neg c7] at H
    have c7b0 : decide (x6_1 ≤ 10) = false := decide_eq_false c7
    clear c7
    simp only [Option.some.injEq, Prod.mk.injEq] at H
    obtain ⟨rfl, rfl⟩ := H
    go_wp2
    go_ret
    exact ⟨_, by first | rfl | (simp [errW_none, errW_some] <;> rfl) | (simp [*, errW_none, errW_some] <;> rfl), by (with_reducible repeat (first | apply Kd.R_alloc | apply Kd.R_drewN | apply Kd.R_drew)); exact HO_5.out, by repeat (first | (with_reducible first | exact HI0.out | apply IsS26.alloc | apply IsS26.drewN | apply IsS26.drew | apply IsS26.set_0) | exact HI0.out), by repeat (first | (with_reducible first | exact HB.out | apply below_alloc | apply pw_below_drewN | apply below_drew1 | refine below_set ?_ (IsS26.ge HI0.out)) | exact HB.out), by repeat (first | (with_reducible first | exact HK.out | apply KeepBut.set_ | apply keep_drewN | apply keep_drew | apply keep_alloc) | exact HK.out)⟩
/-! ### impl_pairsOf: function 107 -/
/-- all two digits of which something is so -/
def rowP (p : Nat → Nat → Bool) (a : Nat) : Nat → Nat → List (List Int)
  | 0, _ => []
  | q + 1, b => (if p a b = true then [[(a : Int), (b : Int)]] else []) ++ rowP p a q (b + 1)
def pairsP (p : Nat → Nat → Bool) : Nat → Nat → List (List Int)
  | 0, _ => []
  | q + 1, a => rowP p a (9 - a) (a + 1) ++ pairsP p q (a + 1)
set_option maxHeartbeats 8000000 in
set_option maxRecDepth 100000 in
theorem pairs_of (f : Nat) (lb : Array Value) (p : Nat → Nat → Bool) (w : World) (eg : ∀ args w, (callFunc f args).run Tryz.prog w = .ok (.enter f args) w)
    (hp : ∀ (W : World) (a b : Nat), Below w.heap.size w W → Calls Tryz.prog f (#[.int .i64 a, .int .i64 b] ++ lb) W fun e w' => e = .returned (.bool (p a b)) ∧ ∃ q, w' = W.drewN q) :
    Calls Tryz.prog 107 #[.func (.func f) #[] lb] w fun e w' => ∃ v0_ : Value, e = .returned (v0_) ∧ Kd.S (Kd.slice 3 (Kd.int .i64)) 24 w' w.heap.size (fun _ => True) v0_ (pairsP p 10 0) ∧ Below w.heap.size w w' := by
  have HP := Aside0.mk hp
  clear hp
  have HRES : ∃ L, L = pairsP p 10 0 := ⟨_, rfl⟩
  obtain ⟨L, hL⟩ := HRES
  rw [← hL]
  have HL := Aside0.mk hL
  clear hL
  go_enter Tryz.func107, Tryz.ntmps107
  go_wp2
  go_loopw [3, 7] (fun v3 v7 wr => ∃ (a : Nat) (acc : List (List Int)), a ≤ 10 ∧ acc.length ≤ 10 * a ∧ v7 = .int .i64 a ∧ Aside0 (Kd.S (Kd.slice 3 (Kd.int .i64)) 24 wr w.heap.size (fun _ => True) v3 acc) ∧ Aside0 (Below w.heap.size w wr) ∧ Aside0 (acc ++ pairsP p (10 - a) a = L)) (fun _ a _ => 10 - (intOf a).toNat)
  case atStart =>
    refine ⟨0, [], by omega, Nat.le_refl _, rfl, ⟨⟨fun _ => 0, fun k hk => trivial, [], ?_, ⟨rfl, fun j p hj => by simp at hj⟩⟩⟩, ⟨(Below.refl _ w).alloc (Nat.le_refl _) _⟩, ⟨by rw [HL.out]; rfl⟩⟩
    have h2 := World.ownsRow_lit (base := w.heap.size) (e := 24) (size := (Kd.tag (fun _ => 0) (Kd.slice 3 (Kd.int .i64))).sz) w #[] 0 (Nat.le_refl _) (by simp [maxLen]) (by simp)
    simpa using h2
  case round =>
    clear HL
    obtain ⟨a, acc, ha, hac, rfl, HO, HB, HQ⟩ := hrel
    by_cases hlt : a < 10
    · have hq := HQ.out
      rw [show 10 - a = (10 - (a + 1)) + 1 by omega, pairsP] at hq
      have HQ1 := Aside0.mk hq
      have hw : wrap64 ((a : Int) + 1) = ((a + 1 : Nat) : Int) := by unfold wrap64; omega
      have z0 : decide ((a : Int) < 10) = true := decide_eq_true (by omega)
      clear hq HQ
      obtain ⟨wo, rfl⟩ : ∃ wo : World, wo = wr := ⟨_, rfl⟩
      go_wp2
      go_loopw [3, 5] (fun v3 v5 wr => ∃ (b : Nat) (acc2 : List (List Int)), a + 1 ≤ b ∧ b ≤ 10 ∧ acc2.length ≤ 10 * a + b ∧ v5 = .int .i64 b ∧ Aside0 (Kd.S (Kd.slice 3 (Kd.int .i64)) 24 wr w.heap.size (fun _ => True) v3 acc2) ∧ Aside0 (Below w.heap.size w wr) ∧ Aside0 (acc2 ++ (rowP p a (10 - b) b ++ pairsP p (10 - (a + 1)) (a + 1)) = L)) (fun _ b _ => 10 - (intOf b).toNat)
      case atStart => exact ⟨a + 1, acc, Nat.le_refl _, by omega, by omega, by first | rfl | go_num, HO, HB, ⟨by rw [show 10 - (a + 1) = 9 - a by omega]; rw [← HQ1.out, show 10 - (a + 1) = 9 - a by omega]⟩⟩
      case round =>
        clear HO HB HQ1
        obtain ⟨b, acc2, hb1, hb2, hac2, rfl, HO, HB, HQ⟩ := hrel
        by_cases hbt : b < 10
        · have hq := HQ.out
          rw [show 10 - b = (10 - (b + 1)) + 1 by omega, rowP] at hq
          have hcall := HP.out wr a b HB.out
          have y0 : decide ((b : Int) < 10) = true := decide_eq_true (by omega)
          have hwb : wrap64 ((b : Int) + 1) = ((b + 1 : Nat) : Int) := by unfold wrap64; omega
          have HQ2 := Aside0.mk hq
          clear hq HQ
          go_wp2_with fail
          refine hcall.mono ?_
          rintro e w5 ⟨rfl, ⟨q5, rfl⟩⟩
          clear hcall
          have HO5 := Aside0.mk (Kd.S_drewN HO.out q5)
          have HB5 := Aside0.mk (pw_below_drewN HB.out q5)
          generalize wr.drewN q5 = w5 at HO5 HB5 ⊢
          clear HO HB
          cases hpb : p a b with
          | false =>
            have hq := HQ2.out
            rw [if_neg (by rw [hpb]; simp), List.nil_append] at hq
            have HQ3 := Aside0.mk hq
            clear hq HQ2
            go_wp2
            go_roundw
            case rel => exact ⟨b + 1, acc2, by omega, by omega, by omega, by first | rfl | go_num, HO5, HB5, HQ3⟩
            case measure => simp [intOf]; omega
          | true =>
            have hq := HQ2.out
            rw [if_pos hpb] at hq
            have HQ3 := Aside0.mk hq
            clear hq HQ2
            obtain ⟨y, hy⟩ : ∃ y : List Int, y = [(a : Int), (b : Int)] := ⟨_, rfl⟩
            have HY := Aside0.mk hy
            clear hy
            go_wp2_with (first | ((with_reducible refine gate_dst (N := 23) rfl ?_); refine Kd.R_lit (Kd.int .i64) _ 3 ?hg (N := 23) ?hd (xs := ([(a : Int), (b : Int)] : List Int)) (inner := [.int .i64 a, .int .i64 b]) (ok := fun _ => True) (okp := fun _ => True) ?hr ?hp (fun _ hk => hk) trivial (Below.refl _ _) (Nat.le_refl _) (by simp) ?_; (case hd => rfl); (case hg => rfl); (case hr => first | (go_simp; done) | (go_simp; rfl)); (case hp => exact (Reps.one (show Kd.M (Kd.int .i64) _ _ _ (a : Int) [.int .i64 a] from rfl) (Reps.one (show Kd.M (Kd.int .i64) _ _ _ (b : Int) [.int .i64 b] from rfl) (Reps.none _ _)))); intro v112 w9 ho10 hb hg_ hnew_; clear hg_ hnew_; rw [← HY.out] at ho10; have n0_ := Aside0.mk (Kd.S_elder' HO5.out (Kd.R_base ho10) hb); have n1_ := Aside0.mk (Kd.R_lower ho10 HB5.out.size); have n2_ := Aside0.mk (HB5.out.trans (hb.mono HB5.out.size)); clear HO5 HB5; have HO5 := n0_; have HO113 := n1_; have HB5 := n2_; clear n0_ n1_ n2_; clear hb ho10; obtain ⟨Ao12, co12, eo12⟩ := Kd.R_slice HO113.out; subst eo12) | ((with_reducible refine gate_builtin (b := .append) (xs := #[.tmp 20, .tmp 24]) rfl ?_); at_builtin; refine Kd.S_append (Kd.slice 3 (Kd.int .i64)) (w0 := w) w.heap.size rfl (.tmp 20) (.tmp 24) 44 24 (.slice none 0 0) 24 rfl Tryz.underlying44 info24 rfl (by decide) (by omega) u3 acc2 y [.slice Ao12 y.length co12] (fun _ => True) (fun k_ => some k_ = (.slice Ao12 y.length co12 : Value).ownBlock) rfl rfl ?aP (fun k_ hk_ => ((Kd.R_mono (ok' := fun k_ => ((fun _ => True)) k_ ∧ some k_ ≠ (u3 : Value).ownBlock) (Kd.R_apart' (HO113.out) (Kd.S_typed HO5.out) (by decide)) (fun k_ hk => ⟨trivial, hk.2⟩))).1 k_ hk_.symm) ?aF ?aO ?aB ?aS ?aL ?_; (case aP => exact Kd.M_row (Kd.R_mono (Kd.R_tight rfl (Kd.R_mono (ok' := fun k_ => ((fun _ => True)) k_ ∧ some k_ ≠ (u3 : Value).ownBlock) (Kd.R_apart' (HO113.out) (Kd.S_typed HO5.out) (by decide)) (fun k_ hk => ⟨trivial, hk.2⟩))) (fun _ h_ => h_))); (case aB => exact HB5.out); (case aF => exact (fun _ _ => trivial)); (case aO => exact (Kd.S_mono HO5.out (fun k_ hk => ⟨trivial, fun e_ => hk.2 e_⟩))); (case aS => exact HB5.out.size); (case aL => omega); intro v115 w11 ho hb hg hat; have n0_ := Aside0.mk (hb); have n1_ := Aside0.mk (ho); clear HB5 HO5 HO113; have HB5 := n0_; have HO116 := n1_; clear n0_ n1_; clear ho hb hg hat))
            go_roundw
            case rel => exact ⟨b + 1, acc2 ++ [y], by omega, by omega, by rw [List.length_append]; simp; omega, by first | rfl | go_num, HO116, HB5, ⟨by rw [← HQ3.out, HY.out]; simp⟩⟩
            case measure => simp [intOf]; omega
        · have hbb : b = 10 := by omega
          subst hbb
          have hq := HQ.out
          rw [Nat.sub_self, rowP, List.nil_append] at hq
          have HQ2 := Aside0.mk hq
          clear hq HQ
          go_wp2
          go_roundw
          case rel => exact ⟨a + 1, acc2, by omega, by omega, by first | rfl | go_num, HO, HB, HQ2⟩
          case measure => simp [intOf]; omega
    · have haa : a = 10 := by omega
      subst haa
      have hq := HQ.out
      rw [Nat.sub_self, pairsP, List.append_nil] at hq
      obtain ⟨A9, c9, e9⟩ := Kd.S_slice HO.out
      subst e9
      have HQ2 := Aside0.mk hq
      clear hq HQ
      go_wp2
      go_ret
      exact ⟨_, rfl, by rw [← HQ2.out]; exact HO.out, HB.out⟩
/-! ### impl_Scheme_missed_1: function 116 -/
set_option maxHeartbeats 2000000 in
theorem impl_Scheme_missed_1.calls (g gw gs : Nat) (m wt : Int) (a b : Nat) (W : World) (hm : m ≠ 0) (h0 : W.cell? ⟨gw, 0, none⟩ = some (.int .i64 wt)) (h1 : W.cell? ⟨gs, 0, none⟩ = some (.pointer (some ⟨g, 0, none⟩))) (h2 : W.cell? ⟨g, 0, none⟩ = some (.int .i64 m)) :
    Calls Tryz.prog 116 (#[.int .i64 a, .int .i64 b] ++ #[.pointer (some ⟨gw, 0, none⟩), .pointer (some ⟨gs, 0, none⟩)]) W fun e w' => e = .returned (.bool (Int.tmod (wrap64 ((wrap64 ((b : Int) - (a : Int))) * wt)) m == 0)) ∧ ∃ q, w' = W.drewN q := by
  have hm1 : (m == 0) = false := beq_eq_false_iff_ne.mpr hm
  have hm2 : (m != 0) = true := bne_iff_ne.mpr hm
  go_enter Tryz.func116, Tryz.ntmps116
  go_wp2
  go_quiet (fail)
  go_wp2
  go_ret
  exact ⟨by first | rfl | simp [i64_w], by first | exact ⟨_, rfl⟩ | exact ⟨_, World.drewN_drewN _ _ _⟩⟩
/-! ### impl_Scheme_missed: function 76 -/
/-- a weight's missed digits -/
def missP (m wt : Int) (a b : Nat) : Bool := Int.tmod (wrap64 ((wrap64 ((b : Int) - (a : Int))) * wt)) m == 0
set_option maxHeartbeats 4000000 in
theorem missed_any (g : Nat) (m wt : Int) (w : World) (hm : m ≠ 0) (h2 : w.cell? ⟨g, 0, none⟩ = some (.int .i64 m)) :
    Calls Tryz.prog 76 #[.pointer (some ⟨g, 0, none⟩), .int .i64 wt] w fun e w' => ∃ v0_ : Value, e = .returned (v0_) ∧ Kd.S (Kd.slice 3 (Kd.int .i64)) 24 w' w.heap.size (fun _ => True) v0_ (pairsP (missP m wt) 10 0) ∧ Below w.heap.size w w' := by
  have hb1 : Below w.heap.size w (w.alloc (.cells #[.pointer (some ⟨g, 0, none⟩)] 102)) := (Below.refl _ w).alloc (Nat.le_refl _) _
  have hb2 : Below w.heap.size w ((w.alloc (.cells #[.pointer (some ⟨g, 0, none⟩)] 102)).alloc (.cells #[.int .i64 wt] 3)) := hb1.alloc hb1.size _
  have hg := World.block_lt_of_cell? w _ h2
  have hpair := pairs_of 116 #[.pointer (some ⟨w.heap.size + 1, 0, none⟩), .pointer (some ⟨w.heap.size, 0, none⟩)] (missP m wt) ((w.alloc (.cells #[.pointer (some ⟨g, 0, none⟩)] 102)).alloc (.cells #[.int .i64 wt] 3))
    (enters_of Tryz.func116 (by kernel_rfl) rfl)
    (fun W a b hW => impl_Scheme_missed_1.calls g (w.heap.size + 1) w.heap.size m wt a b W hm
      ((hW.cell (p := ⟨w.heap.size + 1, 0, none⟩) (by simp)).trans (by simp))
      ((hW.cell (p := ⟨w.heap.size, 0, none⟩) (by simp; omega)).trans (by simp))
      ((hW.cell (p := ⟨g, 0, none⟩) (by simp; have : g < w.heap.size := hg; omega)).trans ((hb2.cell hg).trans h2)))
  have HB2 := Aside0.mk hb2
  generalize pairsP (missP m wt) 10 0 = L at hpair ⊢
  clear hb1 hb2 hg h2 hm
  go_enter Tryz.func76, Tryz.ntmps76
  go_wp2_with fail
  refine hpair.mono ?_
  rintro e w1 ⟨v, rfl, hR, hb⟩
  clear hpair
  go_wp2
  go_ret
  exact ⟨_, rfl, Kd.S_lower hR HB2.out.size, HB2.out.trans (hb.mono HB2.out.size)⟩
/-! ### impl_FindsAllSingles_1: function 75 -/
set_option maxHeartbeats 4000000 in
theorem impl_FindsAllSingles_1.calls (g : Nat) (m x : Int) (W : World) (hm : m ≠ 0) (h2 : W.cell? ⟨g, 0, none⟩ = some (.int .i64 m)) :
    Calls Tryz.prog 75 (#[.int .i64 x] ++ #[.pointer (some ⟨g, 0, none⟩)]) W fun e w' => e = .returned (.bool (decide (0 < (pairsP (missP m x) 10 0).length))) ∧ Below W.heap.size W w' := by
  have hmp := missed_any g m x W hm h2
  generalize pairsP (missP m x) 10 0 = L at hmp ⊢
  go_enter Tryz.func75, Tryz.ntmps75
  go_wp2_with fail
  refine hmp.mono ?_
  rintro e w1 ⟨v, rfl, hS, hb⟩
  obtain ⟨A9, c9, e9⟩ := Kd.S_slice hS
  subst e9
  clear hmp hS
  go_wp2
  go_ret
  exact ⟨by first | rfl | simp, hb⟩
/-! ### impl_FindsAllSingles: function 20 -/
set_option maxHeartbeats 4000000 in
/-- check only reads -/
theorem check_readsV (g : Nat) (m : Int) (ws : List Int) (a1 r1 r2 : Int) (w : World) (h0 : w.cell? ⟨g, 0, none⟩ = some (.int .i64 m)) (h : impl_Scheme_check.f m ws a1 = some (r1, r2)) :
    Calls Tryz.prog 83 #[.pointer (some ⟨g, 0, none⟩), .int .i64 a1] w fun e w' => e = .returned (.int .i64 r1) ∧ ∃ q, w' = w.drewN q := by
  unfold impl_Scheme_check.f at h
  split at h
  · cases h
  · rename_i hm
    simp only [Option.some.injEq, Prod.mk.injEq] at h
    obtain ⟨h, h5⟩ := h
    clear h5
    subst h
    have hm2 : (m == 0) = false := by simpa using hm
    go_enter Tryz.func83, Tryz.ntmps83
    go_wp2
    go_quiet (fail)
    go_wp2
    go_ret
    exact ⟨by first | rfl | (simp only [i64_w]; done) | (simp [i64_w]; done), _, rfl⟩
set_option maxHeartbeats 8000000 in
set_option maxRecDepth 100000 in
/-- checks makes a list and turns nothing else -/
theorem checks_madeV (k : Nat) (g : Nat) (m : Int) (ws : List Int) (a1 : Int) (r1 : List Int) (r2 : Int) (w : World) (h0 : w.cell? ⟨g, 0, none⟩ = some (.int .i64 m)) (h : impl_Scheme_checks.f k m ws a1 = some (r1, r2)) :
    Calls Tryz.prog 65 #[.pointer (some ⟨g, 0, none⟩), .int .i64 a1] w fun e w' => ∃ v, e = .returned v ∧ Kd.R (Kd.int .i64) 3 w' w.heap.size (fun _ => True) v r1 ∧ Below w.heap.size w w' := by
  have hg : g < w.heap.size := World.block_lt_of_cell? w _ h0
  replace h : ((impl_Scheme_check.f m ws a1).bind fun c => impl_Scheme_checks.l0 k ([] : List Int) c.1 c.2 ws) = some (r1, r2) := h
  obtain ⟨⟨c, m2⟩, hc, hl⟩ := Option.bind_eq_some_iff.mp h
  clear h
  have hm2 : m2 = m := by
    unfold impl_Scheme_check.f at hc
    split at hc
    · cases hc
    · simp only [Option.some.injEq, Prod.mk.injEq] at hc
      exact hc.2.symm
  subst hm2
  have h : impl_Scheme_checks.l0 k ([] : List Int) c m2 ws = some (r1, r2) := hl
  have H := Aside0.mk h
  have hck := fun (W : World) (hW : Below w.heap.size w W) => check_readsV g m2 ws a1 c m2 W ((hW.cell (p := ⟨g, 0, none⟩) hg).trans h0) hc
  have HCK := Aside0.mk (hck (w.alloc (.cells #[] 3)) ((Below.refl _ w).alloc (Nat.le_refl _) _))
  have HB0 := Aside0.mk ((Below.refl w.heap.size w).alloc (Nat.le_refl _) (.cells #[] 3))
  have h2 := World.ownsRow_lit (base := w.heap.size) (e := 3) (size := 1) w #[] 0 (Nat.le_refl _) (by simp [maxLen]) (by simp)
  have HR0 : Aside0 (Kd.R (Kd.int .i64) 3 (w.alloc (.cells #[] 3)) w.heap.size (fun _ => True) (.slice (some ⟨w.heap.size, 0, none⟩) 0 0) []) := ⟨Kd.R_of_own (by simpa [encs] using h2) (fun _ _ => trivial)⟩
  clear h hl hc hck h2
  go_enter Tryz.func65, Tryz.ntmps65
  go_wp2_with fail
  refine HCK.out.mono ?_
  rintro e w1 ⟨rfl, ⟨q, rfl⟩⟩
  go_wp2
  go_loopg [5, 6] k (fun kq v5 v6 w' => ∃ (x5 : List Int) (x6 : Int), v6 = .int .i64 x6 ∧ Aside0 (impl_Scheme_checks.l0 kq x5 x6 m2 ws = some (r1, r2)) ∧ Aside0 (kq ≤ k) ∧ Aside0 (Kd.R (Kd.int .i64) 3 w' w.heap.size (fun _ => True) v5 x5) ∧ Aside0 (Below w.heap.size w w'))
  case atStart => exact ⟨[], c, rfl, H, ⟨Nat.le_refl _⟩, ⟨Kd.R_drewN HR0.out q⟩, ⟨pw_below_drewN HB0.out q⟩⟩
  case round =>
    clear H HCK HB0 HR0
    obtain ⟨x5, x6, rfl, HA, HK1, HO, HB⟩ := hrel
    cases gk with
    | zero => exact absurd HA.out (by simp [impl_Scheme_checks.l0])
    | succ k1 =>
      have H := HA.out
      clear HA
      simp only [impl_Scheme_checks.l0] at H
      by_cases c7 : x6 ≤ 10
      · rw [if_pos c7] at H
        split at H
        · rename_i c8
          have H' := Aside0.mk H
          have LM := Aside0.mk c8
          clear H c8
          go_wp2_with (first | ((with_reducible refine gate_builtin (b := .append) (xs := #[.tmp 19, .tmp 21]) rfl ?_); at_builtin; refine Kd.R_append (Kd.int .i64) (w0 := w) w.heap.size rfl (.tmp 19) (.tmp 21) 24 3 (.int .i64 0) 8 rfl Tryz.underlying24 info3 rfl (by decide) (by omega) u5 x5 x6 [.int .i64 x6] (fun _ => True) (fun _ => False) rfl rfl ?aP (fun _ hk => hk.elim) ?aF ?aO ?aB ?aS ?aL ?_; (case aP => exact rfl); (case aB => exact HB.out); (case aF => exact (fun _ _ => trivial)); (case aO => exact HO.out); (case aS => exact HB.out.size); (case aL => have := LM.out; omega); intro v145 w9 ho hb hg9 hat; have HO9 := Aside0.mk ho; have HB9 := Aside0.mk hb; have h09 : w9.cell? ⟨g, 0, none⟩ = some (.int .i64 m2) := (hb.cell (p := ⟨g, 0, none⟩) hg).trans h0; clear hg9 hat ho hb))
          go_roundg k1
          case measure => have := HK1.out; omega
          case rel => exact ⟨x5 ++ [x6], wrap64 (x6 + m2), by first | rfl | (simp only [i64_w]; done) | (simp [i64_w]; done), H', ⟨by have := HK1.out; omega⟩, HO9, HB9⟩
        · cases H
      · rw [if_neg c7] at H
        simp only [Option.some.injEq, Prod.mk.injEq] at H
        obtain ⟨rfl, _⟩ := H
        go_wp2
        go_ret
        exact ⟨_, rfl, HO.out, HB.out⟩
def impl_FindsAllSingles.f (m : Int) (l : List Int) : Option (Bool × Bool) :=
  (impl_IsScheme.f m l).bind fun g => if g = true then (if l.length ≤ 1048576 ∧ m ≠ 0 then some (!(l.any fun x => decide (0 < (pairsP (missP m x) 10 0).length)), true) else none) else some (false, false)
set_option maxHeartbeats 4000000 in
theorem impl_FindsAllSingles.calls (m : Int) (A0_1 : Option Addr) (c0_1 : Nat) (l : List Int) (r1 r2 : Bool) (w : World) (hr0_1 : Kd.C (Kd.int .i64) w A0_1 l.length l) (hc0_1 : l.length ≤ c0_1) (h : impl_FindsAllSingles.f m l = some (r1, r2)) :
    Calls Tryz.prog 20 #[.agg #[.int .i64 m, .slice A0_1 l.length c0_1]] w fun e w' => e = .returned (.tuple #[.bool r1, .bool r2]) ∧ Below w.heap.size w w' := by
  have hu := Tryz.underlying26
  replace h := Option.bind_eq_some_iff.mp h
  obtain ⟨g, hg, h⟩ := h
  have hb0 : Below w.heap.size w (w.alloc (.cells #[.int .i64 m, .slice A0_1 l.length c0_1] 26)) := (Below.refl _ w).alloc (Nat.le_refl _) _
  have hcall := impl_IsScheme.calls m A0_1 c0_1 l g _ (Kd.C_below hr0_1 hb0) hc0_1 hg
  have hk0 : (w.alloc (.cells #[.int .i64 m, .slice A0_1 l.length c0_1] 26)).cell? ⟨w.heap.size, 0, none⟩ = some (.int .i64 m) := by simp
  have hk1 : (w.alloc (.cells #[.int .i64 m, .slice A0_1 l.length c0_1] 26)).cell? ⟨w.heap.size, 1, none⟩ = some (.slice A0_1 l.length c0_1) := by simp
  have hl0 : w.heap.size < (w.alloc (.cells #[.int .i64 m, .slice A0_1 l.length c0_1] 26)).heap.size := by simp
  have HC := Aside0.mk hr0_1
  have HB0 := Aside0.mk hb0
  clear hg hr0_1 hb0
  cases g with
  | false =>
    simp only [Bool.false_eq_true, if_false, Option.some.injEq, Prod.mk.injEq] at h
    obtain ⟨rfl, rfl⟩ := h
    go_enter Tryz.func20, Tryz.ntmps20
    go_wp2_with fail
    refine hcall.mono ?_
    rintro e w1 ⟨rfl, hb1⟩
    clear hcall
    go_wp2
    go_ret2
    exact ⟨rfl, HB0.out.trans (hb1.mono HB0.out.size)⟩
  | true =>
    rw [if_pos rfl] at h
    split at h
    · rename_i hc2
      obtain ⟨hl, hm⟩ := hc2
      simp only [Option.some.injEq, Prod.mk.injEq] at h
      obtain ⟨h1, rfl⟩ := h
      generalize hb : (l.any fun x => decide (0 < (pairsP (missP m x) 10 0).length)) = b at h1
      have hany := fun (W : World) (hW : Below w.heap.size w W) (h2 : W.cell? ⟨w.heap.size, 0, none⟩ = some (.int .i64 m)) => any_int A0_1 c0_1 l 75 #[.pointer (some ⟨w.heap.size, 0, none⟩)] (fun x => some (decide (0 < (pairsP (missP m x) 10 0).length))) W b
        (Kd.C_below HC.out hW) hc0_1 (by omega) (enters_of Tryz.func75 (by kernel_rfl) rfl)
        (fun W2 x b hW2 hx => by
          have e := Option.some.inj hx
          rw [← e]
          exact impl_FindsAllSingles_1.calls w.heap.size m x W2 hm ((hW2.cell (p := ⟨w.heap.size, 0, none⟩) (World.block_lt_of_cell? W _ h2)).trans h2))
        (by rw [← hb]; exact anyO_pure _ _ l (fun x _ => rfl))
      have HA := Aside0.mk hany
      have HE := Aside0.mk h1
      clear hany hb h1
      go_enter Tryz.func20, Tryz.ntmps20
      go_wp2_with fail
      refine hcall.mono ?_
      rintro e w1 ⟨rfl, hb1⟩
      have hc0 := (hb1.cell (p := ⟨w.heap.size, 0, none⟩) hl0).trans hk0
      have hc1 := (hb1.cell (p := ⟨w.heap.size, 1, none⟩) hl0).trans hk1
      have HB1 := Aside0.mk (HB0.out.trans (hb1.mono HB0.out.size))
      have HA1 := Aside0.mk (HA.out w1 HB1.out hc0)
      clear hcall HA hk0 hk1 hb1
      go_wp2_with fail
      refine HA1.out.mono ?_
      rintro e w2 ⟨rfl, hb2⟩
      go_wp2
      go_ret2
      have e1 := HE.out
      subst e1
      exact ⟨rfl, HB1.out.trans (hb2.mono HB1.out.size)⟩
    · exact absurd h (by simp)
/-! ### impl_size: function 77 -/
def impl_size.f (a0 : Int) : Option (Int) := some (mx a0 (wrap64 (-a0)))
set_option maxHeartbeats 8000000 in
set_option maxRecDepth 100000 in
theorem impl_size.calls (a0 : Int) (r : Int) (w : World) (h : impl_size.f a0 = some r) :
    Calls Tryz.prog 77 #[.int .i64 a0] w fun e w' => e = .returned (.int .i64 r) ∧ Below w.heap.size w w' := by
  have HB := Aside0.mk (Below.refl w.heap.size w)
  have H : (some (mx a0 (wrap64 (-a0)))) = some r := h
  clear h
  obtain ⟨ji2, hji2⟩ : ∃ j_ : Int, (mx a0 (wrap64 (-a0))) = j_ := ⟨_, rfl⟩
  replace H : (some ji2) = some r := by first | (rw [hji2] at H; exact H) | (simp only [hji2] at H ⊢; exact H)
  have hji2_ : (if a0 < (wrap64 (-a0)) then (wrap64 (-a0)) else a0) = ji2 := hji2
  obtain rfl := Option.some.inj H
  go_enter Tryz.func77, Tryz.ntmps77
  go_wp2
  go_ret
  exact ⟨by first | rfl | (simp [errW_none, errW_some] <;> rfl) | (simp only [← hji2]; first | rfl | (simp [errW_none, errW_some] <;> rfl)) | (simp [*, errW_none, errW_some] <;> rfl), by repeat (first | (with_reducible first | exact HB.out | apply below_alloc | apply pw_below_drewN | apply below_drew1) | exact HB.out)⟩
/-! ### impl_FindsAllSwaps: function 21 -/
def fswO (m : Int) (l : List Int) : Nat → Nat → Option Bool
  | 0, i => some true
  | q + 1, i => (impl_size.f (wrap64 (rd l ((i : Int) - 1) - rd l (i : Int)))).bind fun t => if 0 < (pairsP (missP m t) 10 0).length then some false else fswO m l q (i + 1)
def impl_FindsAllSwaps.f (m : Int) (l : List Int) : Option (Bool × Bool) :=
  (impl_IsScheme.f m l).bind fun g => if g = true then (if l.length ≤ 1048576 ∧ 1 ≤ l.length ∧ m ≠ 0 then (fswO m l (l.length - 1) 1).bind fun b => some (b, true) else none) else some (false, false)
theorem heldF {w1 W w' : World} {g : Nat} {v0 v1 x0 x1 : Value} {ad : Addr} {i j : Nat} (hb : Below W.heap.size W w') (h0 : W.cell? ⟨g, 0, none⟩ = some v0) (h1 : W.cell? ⟨g, 1, none⟩ = some v1) (h2 : W.cell? (ad.add i) = some x0) (h3 : W.cell? (ad.add j) = some x1) (hB : Below w1.heap.size w1 W) :
    w'.cell? ⟨g, 0, none⟩ = some v0 ∧ w'.cell? ⟨g, 1, none⟩ = some v1 ∧ w'.cell? (ad.add i) = some x0 ∧ w'.cell? (ad.add j) = some x1 ∧ Below w1.heap.size w1 w' :=
  ⟨(hb.cell (World.block_lt_of_cell? W _ h0)).trans h0, (hb.cell (World.block_lt_of_cell? W _ h1)).trans h1, (hb.cell (World.block_lt_of_cell? W _ h2)).trans h2, (hb.cell (World.block_lt_of_cell? W _ h3)).trans h3, hB.trans (hb.mono hB.size)⟩
set_option maxHeartbeats 8000000 in
set_option maxRecDepth 100000 in
theorem impl_FindsAllSwaps.calls (m : Int) (A0_1 : Option Addr) (c0_1 : Nat) (l : List Int) (r1 r2 : Bool) (w : World) (hr0_1 : Kd.C (Kd.int .i64) w A0_1 l.length l) (hc0_1 : l.length ≤ c0_1) (h : impl_FindsAllSwaps.f m l = some (r1, r2)) :
    Calls Tryz.prog 21 #[.agg #[.int .i64 m, .slice A0_1 l.length c0_1]] w fun e w' => e = .returned (.tuple #[.bool r1, .bool r2]) ∧ Below w.heap.size w w' := by
  have hu := Tryz.underlying26
  replace h := Option.bind_eq_some_iff.mp h
  obtain ⟨g, hg, h⟩ := h
  have hb0 : Below w.heap.size w (w.alloc (.cells #[.int .i64 m, .slice A0_1 l.length c0_1] 26)) := (Below.refl _ w).alloc (Nat.le_refl _) _
  have hblk0 : (w.alloc (.cells #[.int .i64 m, .slice A0_1 l.length c0_1] 26)).heap[w.heap.size]? = some (.cells #[.int .i64 m, .slice A0_1 l.length c0_1] 26 (0, 0)) := heap_alloc_new w _
  have hcall := impl_IsScheme.calls m A0_1 c0_1 l g _ (Kd.C_below hr0_1 hb0) hc0_1 hg
  have HC := Aside0.mk hr0_1
  have HB0 := Aside0.mk hb0
  have HK0 := Aside0.mk hblk0
  clear hg hr0_1 hb0 hblk0
  cases g with
  | false =>
    simp only [Bool.false_eq_true, if_false, Option.some.injEq, Prod.mk.injEq] at h
    obtain ⟨rfl, rfl⟩ := h
    go_enter Tryz.func21, Tryz.ntmps21
    go_wp2_with fail
    refine hcall.mono ?_
    rintro e w1 ⟨rfl, hb1⟩
    clear hcall
    go_wp2
    go_ret2
    exact ⟨rfl, HB0.out.trans (hb1.mono HB0.out.size)⟩
  | true =>
    rw [if_pos rfl] at h
    split at h
    · rename_i hc2
      obtain ⟨hl, hl1, hm⟩ := hc2
      obtain ⟨b, hb, h2⟩ := Option.bind_eq_some_iff.mp h
      clear h
      simp only [Option.some.injEq, Prod.mk.injEq] at h2
      obtain ⟨rfl, rfl⟩ := h2
      have HQ0 := Aside0.mk hb
      have HM := Aside0.mk hm
      clear hb hm
      go_enter Tryz.func21, Tryz.ntmps21
      go_wp2_with fail
      refine hcall.mono ?_
      rintro e w1 ⟨rfl, hb1⟩
      have HB1 := Aside0.mk (HB0.out.trans (hb1.mono HB0.out.size))
      have HK1 : Aside0 (w1.heap[w.heap.size]? = some (.cells #[.int .i64 m, .slice A0_1 l.length c0_1] 26 (0, 0))) := ⟨(hb1.block _ (blk_lt HK0.out)).trans HK0.out⟩
      clear hcall hb1 HB0 HK0
      go_wp2
      go_loopg [4] l.length (fun gg s4 wr => ∃ i : Nat, s4 = .int .i64 (i : Int) ∧ 1 ≤ i ∧ i ≤ l.length ∧ l.length - i ≤ gg ∧ Aside0 (fswO m l (l.length - i) i = some b) ∧ Aside0 (Below w1.heap.size w1 wr))
      case atStart => exact ⟨1, rfl, Nat.le_refl _, hl1, by omega, HQ0, ⟨Below.refl _ _⟩⟩
      case round =>
        clear HQ0
        obtain ⟨i, rfl, hi1, hi2, hgg, HQ, HB⟩ := hrel
        have hlw := blk_lt HK1.out
        have hc0 : wr.cell? ⟨w.heap.size, 0, none⟩ = some (.int .i64 m) := (HB.out.cell (p := ⟨w.heap.size, 0, none⟩) hlw).trans ((blk_cell HK1.out 0).trans rfl)
        have hc1 : wr.cell? ⟨w.heap.size, 1, none⟩ = some (.slice A0_1 l.length c0_1) := (HB.out.cell (p := ⟨w.heap.size, 1, none⟩) hlw).trans ((blk_cell HK1.out 1).trans rfl)
        by_cases hil : i < l.length
        · have e := HQ.out
          rw [show l.length - i = (l.length - (i + 1)) + 1 by omega, fswO] at e
          obtain ⟨t, ht, e2⟩ := Option.bind_eq_some_iff.mp e
          clear e
          have HW := HB1.out.trans (HB.out.mono HB1.out.size)
          obtain ⟨ad, hA, hx0⟩ := Kd.at_int (Kd.C_below HC.out HW) ((i : Int) - 1) (by omega) (by omega)
          subst hA
          obtain ⟨ad', hA', hx1⟩ := Kd.at_int (Kd.C_below HC.out HW) (i : Int) (by omega) (by omega)
          injection hA' with hA'
          subst hA'
          have hsz := fun W => impl_size.calls _ t W ht
          have HSZ := Aside0.mk hsz
          have HMP := Aside0.mk (fun (W : World) h2 => missed_any w.heap.size m t W HM.out h2)
          generalize pairsP (missP m t) 10 0 = L at HMP e2
          have HE := Aside0.mk e2
          clear hsz ht e2 HW
          generalize hxq : rd l ((i : Int) - 1) = x at hx0 HSZ
          generalize hyq : rd l (i : Int) = y at hx1 HSZ
          clear hxq hyq
          generalize hz : wrap64 (x - y) = z at HSZ
          have hzw : IntKind.i64.wrap (x - y) = z := (i64_w _).trans hz
          have z0 : (i : Int) < (l.length : Int) := by omega
          have z1 : (0 : Int) ≤ (i : Int) - 1 := by omega
          have z2 : (i : Int) - 1 < (l.length : Int) := by omega
          have z3 : (0 : Int) ≤ (i : Int) := by omega
          have hpw : IntKind.i64.wrap ((i : Int) - 1) = (i : Int) - 1 := (i64_w _).trans (by unfold wrap64; omega)
          have hpw2 : IntKind.i64.wrap ((i : Int) + 1) = (i : Int) + 1 := (i64_w _).trans (by unfold wrap64; omega)
          clear hz
          obtain ⟨ji, hji⟩ : ∃ ji : Int, (i : Int) - 1 = ji := ⟨_, rfl⟩
          rw [hji] at hx0 z1 z2
          replace hpw : IntKind.i64.wrap ((i : Int) - 1) = ji := hpw.trans hji
          have HJI := Aside0.mk hji
          clear hji
          have y1 : (0 ≤ ji) = True := eq_true z1
          have y2 : (ji < (l.length : Int)) = True := eq_true z2
          have y3 : decide (0 ≤ ji) = true := decide_eq_true z1
          have y4 : decide (ji < (l.length : Int)) = true := decide_eq_true z2
          clear z1 z2
          simp only [Int.toNat_natCast] at hx1
          have HX1 := Aside0.mk hx1
          clear hx1
          generalize hxi : (i : Int) = xi at hpw hpw2 z0 z3 ⊢
          have x1 : (0 ≤ xi) = True := eq_true z3
          have x2 : (xi < (l.length : Int)) = True := eq_true z0
          have x3 : decide (0 ≤ xi) = true := decide_eq_true z3
          have x4 : decide (xi < (l.length : Int)) = true := decide_eq_true z0
          clear z0 z3
          have hx1 : wr.cell? (ad.add xi.toNat) = some (.int .i64 y) := by rw [← hxi, Int.toNat_natCast]; exact HX1.out
          have HXI := Aside0.mk hxi
          clear hxi HX1
          go_wp2
          go_region_held3 (fun w' => w'.cell? ⟨w.heap.size, 0, none⟩ = some (.int .i64 m) ∧ w'.cell? ⟨w.heap.size, 1, none⟩ = some (.slice (some ad) l.length c0_1) ∧ w'.cell? (ad.add ji.toNat) = some (.int .i64 x) ∧ w'.cell? (ad.add xi.toNat) = some (.int .i64 y) ∧ Below wr.heap.size wr w')
            (first
              | exact ⟨hc0, hc1, hx0, hx1, Below.refl _ _⟩
              | exact ⟨hc0, hc1, hx0, hx1, below_drew1 (Below.refl _ _)⟩
              | (go_split_ands; exact heldF hb (by assumption) (by assumption) (by assumption) (by assumption) (by assumption))
              | (go_split_ands; exact heldF (below_drew1 (Below.refl _ _)) (by assumption) (by assumption) (by assumption) (by assumption) (by assumption))
              | go_keep)
            (first
              | (go_at_call 77; (with_reducible refine (HSZ.out _).mono ?_); rintro e w' ⟨rfl, hb⟩)
              | (go_at_call 76; go_split_ands; (with_reducible refine (HMP.out _ ?sb).mono ?_); (case sb => assumption); rintro e w' ⟨v, rfl, hRes, hb⟩; obtain ⟨A9, c9, e9⟩ := Kd.S_slice hRes; subst e9; clear hRes))
          have hH : Below wr.heap.size wr w' := by
            have hH2 : w'.cell? ⟨w.heap.size, 0, none⟩ = some (.int .i64 m) ∧ w'.cell? ⟨w.heap.size, 1, none⟩ = some (.slice (some ad) l.length c0_1) ∧ w'.cell? (ad.add ji.toNat) = some (.int .i64 x) ∧ w'.cell? (ad.add xi.toNat) = some (.int .i64 y) ∧ Below wr.heap.size wr w' := by assumption
            exact hH2.2.2.2.2
          have HH := Aside0.mk (HB.out.trans (hH.mono HB.out.size))
          clear hH
          by_cases hL : 0 < L.length
          · have e2 := HE.out
            rw [if_pos hL, Option.some.injEq] at e2
            subst e2
            go_wp2
            go_ret2
            exact ⟨rfl, HB1.out.trans (HH.out.mono HB1.out.size)⟩
          · have e2 := HE.out
            rw [if_neg hL] at e2
            have HE2 := Aside0.mk e2
            clear e2
            go_wp2
            go_roundg (l.length - (i + 1))
            case measure => omega
            case rel => exact ⟨i + 1, by have := HXI.out; (first | (rw [← this]; go_num) | (congr 1; omega)), by omega, by omega, Nat.le_refl _, HE2, HH⟩
        · obtain rfl : i = l.length := by omega
          have e := HQ.out
          rw [Nat.sub_self, fswO, Option.some.injEq] at e
          subst e
          have hni : ¬ ((l.length : Nat) : Int) < (l.length : Int) := by omega
          go_wp2
          go_ret2
          exact ⟨rfl, HB1.out.trans (HB.out.mono HB1.out.size)⟩
    · exact absurd h (by simp)
/-! ### laws_fSame: function 92 -/
def laws_fSame.l0 : Nat → List Int → List Int → Int → Int → Option (Bool)
 | 0, _, _, _, _ => none
 | k + 1, x0, x1, x12, x13 => if x13 < x12 then (if 0 ≤ x13 then (if x13 < (x0.length : Int) then (if x13 < (x1.length : Int) then (if (rd x0 x13) = (rd x1 x13) then (laws_fSame.l0 k x0 x1 x12 (wrap64 (x13 + 1))) else (some false)) else (none)) else (none)) else (none)) else (some true)
def laws_fSame.f (k : Nat) (l0 : List Int) (l1 : List Int) : Option (Bool) := if (l0.length : Int) = (l1.length : Int) then (laws_fSame.l0 k l0 l1 (l0.length : Int) 0) else (some false)
theorem laws_fSame.mono_l : ∀ k, (∀ y0 y1 y2 y3, LeO (laws_fSame.l0 k y0 y1 y2 y3) (laws_fSame.l0 (k + 1) y0 y1 y2 y3))
 | 0 => fun _ _ _ _ r h => by simp [laws_fSame.l0] at h
 | k + 1 => by
  have ih0 := laws_fSame.mono_l k
  ·
   intro y0 y1 y2 y3
   unfold laws_fSame.l0
   repeat' first
   | (with_reducible exact ih0 _ _ _ _)
   | (with_reducible exact LeO.refl _)
   | (with_reducible exact LeO.none _)
   | (with_reducible refine LeO.ite ?_ ?_)
   | (with_reducible refine LeO.bind ?_ (fun _ => ?_))
   | exact ih0 _ _ _ _
   | exact LeO.none _
   | refine LeO.ite ?_ ?_
   | refine LeO.bind ?_ (fun _ => ?_)
theorem laws_fSame.mono : ∀ a0 a1 k, LeO (laws_fSame.f k a0 a1) (laws_fSame.f (k + 1) a0 a1) := by
 intro a0 a1 k
 have ih0 := laws_fSame.mono_l k
 unfold laws_fSame.f
 repeat' first
   | (with_reducible exact ih0 _ _ _ _)
   | (with_reducible exact LeO.refl _)
   | (with_reducible exact LeO.none _)
   | (with_reducible refine LeO.ite ?_ ?_)
   | (with_reducible refine LeO.bind ?_ (fun _ => ?_))
   | exact ih0 _ _ _ _
   | exact LeO.none _
   | refine LeO.ite ?_ ?_
   | refine LeO.bind ?_ (fun _ => ?_)
set_option maxHeartbeats 8000000 in
set_option maxRecDepth 100000 in
theorem laws_fSame.calls (k : Nat) (A0 : Option Addr) (c0 : Nat) (l0 : List Int) (A1 : Option Addr) (c1 : Nat) (l1 : List Int) (r : Bool) (w : World) (hr0 : Kd.C (Kd.int .i64) w A0 l0.length l0) (hc0 : l0.length ≤ c0) (hr1 : Kd.C (Kd.int .i64) w A1 l1.length l1) (hc1 : l1.length ≤ c1) (h : laws_fSame.f k l0 l1 = some r) :
  Calls Tryz.prog 92 #[.slice A0 l0.length c0, .slice A1 l1.length c1] w fun e w' => e = .returned (.bool r) ∧ Drawn0 w w' := by
 have HR0 := Aside0.mk hr0
 have HC0 := Aside0.mk hc0
 clear hr0 hc0
 have HR1 := Aside0.mk hr1
 have HC1 := Aside0.mk hc1
 clear hr1 hc1
 have H : (if (l0.length : Int) = (l1.length : Int) then (laws_fSame.l0 k l0 l1 (l0.length : Int) 0) else (some false)) = some r := h
 clear h
 by_cases c3 : (l0.length : Int) = (l1.length : Int)
 ·
  rw [if_pos c3] at H
  have c3b0 : ((l0.length : Int) == (l1.length : Int)) = true := beq_iff_eq.mpr c3
  have c3b1 : ((l0.length : Int) != (l1.length : Int)) = false := bne_eq_false_iff_eq.mpr c3
  have c3b2 : (l0.length == l1.length) = true := by first | simpa using c3 | (simp at c3 ⊢; omega)
  clear c3
  have H' := Aside0.mk H
  clear H
  go_enter Tryz.func92, Tryz.ntmps92
  go_wp2
  repeat (go_quiet (fail); try go_wp2)
  go_loopg [13] k (fun kq v13 w' => ∃ (x13_1 : Int), v13 = .int .i64 x13_1 ∧ Aside0 (laws_fSame.l0 kq l0 l1 (l0.length : Int) x13_1 = some r) ∧ Aside0 (kq ≤ k) ∧ Drawn0 w w')
  case atStart => exact ⟨(0), (by first | rfl | (simp; done) | (simp [*]; done) | (simp [isEmpty_bne]; done) | (simp [i64_w]; done) | (simp only [i64_w]; done)), H', ⟨Nat.le_refl _⟩, by repeat (first | exact Drawn0.refl _ | apply Drawn0.step)⟩
  case round =>
   clear H'
   try clear c1
   try clear p2
   try clear c3
   try clear c3b0
   try clear c3b1
   try clear c3b2
   obtain ⟨x13_1, rfl, HA, HK1, ⟨m1, rfl⟩⟩ := hrel
   cases gk with
   | zero => exact absurd HA.out (by simp [laws_fSame.l0])
   | succ k1 =>
    have H := HA.out
    clear HA
    simp only [laws_fSame.l0] at H
    by_cases c4 : x13_1 < (l0.length : Int)
    ·
     rw [if_pos c4] at H
     have c4b0 : decide (x13_1 < (l0.length : Int)) = true := decide_eq_true c4
     clear c4
     by_cases c5 : 0 ≤ x13_1
     ·
      rw [if_pos c5] at H
      have c5b0 : decide (0 ≤ x13_1) = true := decide_eq_true c5
      clear c5
      by_cases c6 : x13_1 < (l0.length : Int)
      ·
       rw [if_pos c6] at H
       have c6b0 : decide (x13_1 < (l0.length : Int)) = true := decide_eq_true c6
       clear c6
       by_cases c7 : x13_1 < (l1.length : Int)
       ·
        rw [if_pos c7] at H
        have c7b0 : decide (x13_1 < (l1.length : Int)) = true := decide_eq_true c7
        clear c7
        by_cases c8 : (rd l0 x13_1) = (rd l1 x13_1)
        ·
         rw [if_pos c8] at H
         have c8b0 : ((rd l0 x13_1) == (rd l1 x13_1)) = true := beq_iff_eq.mpr c8
         have c8b1 : ((rd l0 x13_1) != (rd l1 x13_1)) = false := bne_eq_false_iff_eq.mpr c8
         clear c8
         have H' := Aside0.mk H
         clear H
         have p109 : 0 ≤ (x13_1 : Int) := of_decide_eq_true (by first | (with_reducible assumption) | assumption)
         have q109 : x13_1 < (l0.length : Int) := of_decide_eq_true (by first | (with_reducible assumption) | assumption)
         obtain ⟨ad109, e109, hx109_0⟩ := Kd.at_int HR0.out x13_1 p109 q109
         cases e109
         replace p109 := eq_true p109
         replace q109 := eq_true q109
         have p110 : 0 ≤ (x13_1 : Int) := of_decide_eq_true (by first | (with_reducible assumption) | assumption)
         have q110 : x13_1 < (l1.length : Int) := of_decide_eq_true (by first | (with_reducible assumption) | assumption)
         obtain ⟨ad110, e110, hx110_0⟩ := Kd.at_int HR1.out x13_1 p110 q110
         cases e110
         replace p110 := eq_true p110
         replace q110 := eq_true q110
         go_wp2
         repeat (go_quiet (fail); try go_wp2)
         go_roundg k1
         case measure => have := HK1.out; omega
         case rel => exact ⟨(wrap64 (x13_1 + 1)), (by first | rfl | (simp; done) | (simp [*]; done) | (simp [isEmpty_bne]; done) | (simp [i64_w]; done) | (simp only [i64_w]; done)), H', ⟨by have := HK1.out; omega⟩, by repeat (first | exact Drawn0.refl _ | apply Drawn0.step)⟩
        ·
         rw [if_neg c8] at H
         have c8b0 : ((rd l0 x13_1) == (rd l1 x13_1)) = false := beq_eq_false_iff_ne.mpr c8
         have c8b1 : ((rd l0 x13_1) != (rd l1 x13_1)) = true := bne_iff_ne.mpr c8
         obtain rfl := Option.some.inj H
         have p109 : 0 ≤ (x13_1 : Int) := of_decide_eq_true (by first | (with_reducible assumption) | assumption)
         have q109 : x13_1 < (l0.length : Int) := of_decide_eq_true (by first | (with_reducible assumption) | assumption)
         obtain ⟨ad109, e109, hx109_0⟩ := Kd.at_int HR0.out x13_1 p109 q109
         cases e109
         replace p109 := eq_true p109
         replace q109 := eq_true q109
         have p110 : 0 ≤ (x13_1 : Int) := of_decide_eq_true (by first | (with_reducible assumption) | assumption)
         have q110 : x13_1 < (l1.length : Int) := of_decide_eq_true (by first | (with_reducible assumption) | assumption)
         obtain ⟨ad110, e110, hx110_0⟩ := Kd.at_int HR1.out x13_1 p110 q110
         cases e110
         replace p110 := eq_true p110
         replace q110 := eq_true q110
         go_wp2
         repeat (go_quiet (fail); try go_wp2)
         go_ret
         exact ⟨by first | rfl | (simp; done) | (simp [*]; done) | (simp [isEmpty_bne]; done) | (simp [i64_w]; done) | (simp only [i64_w]; done), by repeat (first | exact Drawn0.refl _ | apply Drawn0.step)⟩
       ·
        rw [if_neg c7] at H
        exact absurd H (by simp)
      ·
       rw [if_neg c6] at H
       exact absurd H (by simp)
     ·
      rw [if_neg c5] at H
      exact absurd H (by simp)
    ·
     rw [if_neg c4] at H
     have c4b0 : decide (x13_1 < (l0.length : Int)) = false := decide_eq_false c4
     clear c4
     obtain rfl := Option.some.inj H
     go_wp2
     repeat (go_quiet (fail); try go_wp2)
     go_ret
     exact ⟨by first | rfl | (simp; done) | (simp [*]; done) | (simp [isEmpty_bne]; done) | (simp [i64_w]; done) | (simp only [i64_w]; done), by repeat (first | exact Drawn0.refl _ | apply Drawn0.step)⟩
 ·
  rw [if_neg c3] at H
  have c3b0 : ((l0.length : Int) == (l1.length : Int)) = false := beq_eq_false_iff_ne.mpr c3
  have c3b1 : ((l0.length : Int) != (l1.length : Int)) = true := bne_iff_ne.mpr c3
  have c3b2 : (l0.length == l1.length) = false := by first | simpa using c3 | (simp at c3 ⊢; omega)
  obtain rfl := Option.some.inj H
  go_enter Tryz.func92, Tryz.ntmps92
  go_wp2
  repeat (go_quiet (fail); try go_wp2)
  go_ret
  exact ⟨by first | rfl | (simp; done) | (simp [*]; done) | (simp [isEmpty_bne]; done) | (simp [i64_w]; done) | (simp only [i64_w]; done), by repeat (first | exact Drawn0.refl _ | apply Drawn0.step)⟩
/-! ### laws_fRows: function 33 -/
def laws_fRows.l0 : Nat → List (List Int) → List (List Int) → Int → Int → Option (Bool)
 | 0, _, _, _, _ => none
 | k + 1, x0, x1, x12, x13 => if x13 < x12 then (if 0 ≤ x13 then (if x13 < (x0.length : Int) then (if x13 < (x1.length : Int) then ((laws_fSame.f k (rd_L2 x0 x13) (rd_L2 x1 x13)).bind fun t113 => (if t113 = true then (laws_fRows.l0 k x0 x1 x12 (wrap64 (x13 + 1))) else (some false))) else (none)) else (none)) else (none)) else (some true)
def laws_fRows.f (k : Nat) (l0 : List (List Int)) (l1 : List (List Int)) : Option (Bool) := if (l0.length : Int) = (l1.length : Int) then (laws_fRows.l0 k l0 l1 (l0.length : Int) 0) else (some false)
theorem laws_fRows.mono_l : ∀ k, (∀ y0 y1 y2 y3, LeO (laws_fRows.l0 k y0 y1 y2 y3) (laws_fRows.l0 (k + 1) y0 y1 y2 y3))
 | 0 => fun _ _ _ _ r h => by simp [laws_fRows.l0] at h
 | k + 1 => by
  have ih0 := laws_fRows.mono_l k
  ·
   intro y0 y1 y2 y3
   unfold laws_fRows.l0
   repeat' first
   | (with_reducible exact ih0 _ _ _ _)
   | (with_reducible exact laws_fSame.mono _ _ _)
   | (with_reducible exact LeO.refl _)
   | (with_reducible exact LeO.none _)
   | (with_reducible refine LeO.ite ?_ ?_)
   | (with_reducible refine LeO.bind ?_ (fun _ => ?_))
   | exact ih0 _ _ _ _
   | exact laws_fSame.mono _ _ _
   | exact LeO.none _
   | refine LeO.ite ?_ ?_
   | refine LeO.bind ?_ (fun _ => ?_)
theorem laws_fRows.mono : ∀ a0 a1 k, LeO (laws_fRows.f k a0 a1) (laws_fRows.f (k + 1) a0 a1) := by
 intro a0 a1 k
 have ih0 := laws_fRows.mono_l k
 unfold laws_fRows.f
 repeat' first
   | (with_reducible exact ih0 _ _ _ _)
   | (with_reducible exact laws_fSame.mono _ _ _)
   | (with_reducible exact LeO.refl _)
   | (with_reducible exact LeO.none _)
   | (with_reducible refine LeO.ite ?_ ?_)
   | (with_reducible refine LeO.bind ?_ (fun _ => ?_))
   | exact ih0 _ _ _ _
   | exact laws_fSame.mono _ _ _
   | exact LeO.none _
   | refine LeO.ite ?_ ?_
   | refine LeO.bind ?_ (fun _ => ?_)
set_option maxHeartbeats 8000000 in
set_option maxRecDepth 100000 in
theorem laws_fRows.calls (k : Nat) (A0 : Option Addr) (c0 : Nat) (l0 : List (List Int)) (A1 : Option Addr) (c1 : Nat) (l1 : List (List Int)) (r : Bool) (w : World) (hr0 : Kd.C (Kd.slice 3 (Kd.int .i64)) w A0 l0.length l0) (hc0 : l0.length ≤ c0) (hr1 : Kd.C (Kd.slice 3 (Kd.int .i64)) w A1 l1.length l1) (hc1 : l1.length ≤ c1) (h : laws_fRows.f k l0 l1 = some r) :
  Calls Tryz.prog 33 #[.slice A0 l0.length c0, .slice A1 l1.length c1] w fun e w' => e = .returned (.bool r) ∧ Drawn0 w w' := by
 have HR0 := Aside0.mk hr0
 have HC0 := Aside0.mk hc0
 clear hr0 hc0
 have HR1 := Aside0.mk hr1
 have HC1 := Aside0.mk hc1
 clear hr1 hc1
 have H : (if (l0.length : Int) = (l1.length : Int) then (laws_fRows.l0 k l0 l1 (l0.length : Int) 0) else (some false)) = some r := h
 clear h
 by_cases c3 : (l0.length : Int) = (l1.length : Int)
 ·
  rw [if_pos c3] at H
  have c3b0 : ((l0.length : Int) == (l1.length : Int)) = true := beq_iff_eq.mpr c3
  have c3b1 : ((l0.length : Int) != (l1.length : Int)) = false := bne_eq_false_iff_eq.mpr c3
  have c3b2 : (l0.length == l1.length) = true := by first | simpa using c3 | (simp at c3 ⊢; omega)
  clear c3
  have H' := Aside0.mk H
  clear H
  go_enter Tryz.func33, Tryz.ntmps33
  go_wp2
  repeat (go_quiet (fail); try go_wp2)
  go_loopg [13] k (fun kq v13 w' => ∃ (x13_1 : Int), v13 = .int .i64 x13_1 ∧ Aside0 (laws_fRows.l0 kq l0 l1 (l0.length : Int) x13_1 = some r) ∧ Aside0 (kq ≤ k) ∧ Drawn0 w w')
  case atStart => exact ⟨(0), (by first | rfl | (simp; done) | (simp [*]; done) | (simp [isEmpty_bne]; done) | (simp [i64_w]; done) | (simp only [i64_w]; done)), H', ⟨Nat.le_refl _⟩, by repeat (first | exact Drawn0.refl _ | apply Drawn0.step)⟩
  case round =>
   clear H'
   try clear c1
   try clear p2
   try clear c3
   try clear c3b0
   try clear c3b1
   try clear c3b2
   obtain ⟨x13_1, rfl, HA, HK1, ⟨m1, rfl⟩⟩ := hrel
   cases gk with
   | zero => exact absurd HA.out (by simp [laws_fRows.l0])
   | succ k1 =>
    have H := HA.out
    clear HA
    simp only [laws_fRows.l0] at H
    by_cases c4 : x13_1 < (l0.length : Int)
    ·
     rw [if_pos c4] at H
     have c4b0 : decide (x13_1 < (l0.length : Int)) = true := decide_eq_true c4
     clear c4
     by_cases c5 : 0 ≤ x13_1
     ·
      rw [if_pos c5] at H
      have c5b0 : decide (0 ≤ x13_1) = true := decide_eq_true c5
      clear c5
      by_cases c6 : x13_1 < (l0.length : Int)
      ·
       rw [if_pos c6] at H
       have c6b0 : decide (x13_1 < (l0.length : Int)) = true := decide_eq_true c6
       clear c6
       by_cases c7 : x13_1 < (l1.length : Int)
       ·
        rw [if_pos c7] at H
        have c7b0 : decide (x13_1 < (l1.length : Int)) = true := decide_eq_true c7
        clear c7
        replace H := Option.bind_eq_some_iff.mp H
        obtain ⟨t113, A80, H⟩ := H
        replace H : (if t113 = true then (laws_fRows.l0 k1 l0 l1 (l0.length : Int) (wrap64 (x13_1 + 1))) else (some false)) = some r := H
        have A8 := Aside0.mk A80
        clear A80
        by_cases c9 : t113 = true
        ·
         subst c9
         have H1 : (laws_fRows.l0 k1 l0 l1 (l0.length : Int) (wrap64 (x13_1 + 1))) = some r := by rw [if_pos rfl] at H; exact H
         clear H
         have H := H1
         clear H1
         have H' := Aside0.mk H
         clear H
         have p111 : 0 ≤ (x13_1 : Int) := of_decide_eq_true (by first | (with_reducible assumption) | assumption)
         have q111 : x13_1 < (l0.length : Int) := of_decide_eq_true (by first | (with_reducible assumption) | assumption)
         obtain ⟨ad111, A111_0, c111_0, e111, hx111_0, hl111_0, hi111_0⟩ := at_L2 HR0.out x13_1 p111 q111
         cases e111
         have HR111_0 := Aside0.mk hi111_0
         have HC111_0 := Aside0.mk hl111_0
         clear hi111_0 hl111_0
         replace p111 := eq_true p111
         replace q111 := eq_true q111
         have p112 : 0 ≤ (x13_1 : Int) := of_decide_eq_true (by first | (with_reducible assumption) | assumption)
         have q112 : x13_1 < (l1.length : Int) := of_decide_eq_true (by first | (with_reducible assumption) | assumption)
         obtain ⟨ad112, A112_0, c112_0, e112, hx112_0, hl112_0, hi112_0⟩ := at_L2 HR1.out x13_1 p112 q112
         cases e112
         have HR112_0 := Aside0.mk hi112_0
         have HC112_0 := Aside0.mk hl112_0
         clear hi112_0 hl112_0
         replace p112 := eq_true p112
         replace q112 := eq_true q112
         go_wp2_with (first | (go_at_call 92; (with_reducible refine (laws_fSame.calls k1 _ _ (rd_L2 l0 x13_1) _ _ (rd_L2 l1 x13_1) true _ ?side1 ?side2 ?side3 ?side4 A8.out).mono ?_); (case side1 => repeat (first | exact HR111_0.out | (with_reducible refine Kd.C_alloc ?_ _) | (with_reducible refine Kd.C_drewN ?_ _) | (with_reducible refine Kd.C_drew ?_))); (case side2 => exact HC111_0.out); (case side3 => repeat (first | exact HR112_0.out | (with_reducible refine Kd.C_alloc ?_ _) | (with_reducible refine Kd.C_drewN ?_ _) | (with_reducible refine Kd.C_drew ?_))); (case side4 => exact HC112_0.out); rintro e w' ⟨rfl, ⟨nd, rfl⟩⟩; (try first | exact ⟨rfl, _, World.drewN_drewN _ _ _⟩ | exact ⟨rfl, _, Eq.trans (World.drewN_drewN _ _ _) (congrArg (World.drewN _) (Nat.add_assoc _ _ _))⟩)))
         repeat (go_quiet (first | (go_at_call 92; (with_reducible refine (laws_fSame.calls k1 _ _ (rd_L2 l0 x13_1) _ _ (rd_L2 l1 x13_1) true _ ?side1 ?side2 ?side3 ?side4 A8.out).mono ?_); (case side1 => repeat (first | exact HR111_0.out | (with_reducible refine Kd.C_alloc ?_ _) | (with_reducible refine Kd.C_drewN ?_ _) | (with_reducible refine Kd.C_drew ?_))); (case side2 => exact HC111_0.out); (case side3 => repeat (first | exact HR112_0.out | (with_reducible refine Kd.C_alloc ?_ _) | (with_reducible refine Kd.C_drewN ?_ _) | (with_reducible refine Kd.C_drew ?_))); (case side4 => exact HC112_0.out); rintro e w' ⟨rfl, ⟨nd, rfl⟩⟩; (try first | exact ⟨rfl, _, World.drewN_drewN _ _ _⟩ | exact ⟨rfl, _, Eq.trans (World.drewN_drewN _ _ _) (congrArg (World.drewN _) (Nat.add_assoc _ _ _))⟩))); try go_wp2_with (first | (go_at_call 92; (with_reducible refine (laws_fSame.calls k1 _ _ (rd_L2 l0 x13_1) _ _ (rd_L2 l1 x13_1) true _ ?side1 ?side2 ?side3 ?side4 A8.out).mono ?_); (case side1 => repeat (first | exact HR111_0.out | (with_reducible refine Kd.C_alloc ?_ _) | (with_reducible refine Kd.C_drewN ?_ _) | (with_reducible refine Kd.C_drew ?_))); (case side2 => exact HC111_0.out); (case side3 => repeat (first | exact HR112_0.out | (with_reducible refine Kd.C_alloc ?_ _) | (with_reducible refine Kd.C_drewN ?_ _) | (with_reducible refine Kd.C_drew ?_))); (case side4 => exact HC112_0.out); rintro e w' ⟨rfl, ⟨nd, rfl⟩⟩; (try first | exact ⟨rfl, _, World.drewN_drewN _ _ _⟩ | exact ⟨rfl, _, Eq.trans (World.drewN_drewN _ _ _) (congrArg (World.drewN _) (Nat.add_assoc _ _ _))⟩))))
         go_roundg k1
         case measure => have := HK1.out; omega
         case rel => exact ⟨(wrap64 (x13_1 + 1)), (by first | rfl | (simp; done) | (simp [*]; done) | (simp [isEmpty_bne]; done) | (simp [i64_w]; done) | (simp only [i64_w]; done)), H', ⟨by have := HK1.out; omega⟩, by repeat (first | exact Drawn0.refl _ | apply Drawn0.step)⟩
        ·
         replace c9 := Bool.eq_false_iff.mpr c9
         subst c9
         have H1 : (some false) = some r := by rw [if_neg (show ¬ (false = true) by decide)] at H; exact H
         clear H
         have H := H1
         clear H1
         obtain rfl := Option.some.inj H
         have p111 : 0 ≤ (x13_1 : Int) := of_decide_eq_true (by first | (with_reducible assumption) | assumption)
         have q111 : x13_1 < (l0.length : Int) := of_decide_eq_true (by first | (with_reducible assumption) | assumption)
         obtain ⟨ad111, A111_0, c111_0, e111, hx111_0, hl111_0, hi111_0⟩ := at_L2 HR0.out x13_1 p111 q111
         cases e111
         have HR111_0 := Aside0.mk hi111_0
         have HC111_0 := Aside0.mk hl111_0
         clear hi111_0 hl111_0
         replace p111 := eq_true p111
         replace q111 := eq_true q111
         have p112 : 0 ≤ (x13_1 : Int) := of_decide_eq_true (by first | (with_reducible assumption) | assumption)
         have q112 : x13_1 < (l1.length : Int) := of_decide_eq_true (by first | (with_reducible assumption) | assumption)
         obtain ⟨ad112, A112_0, c112_0, e112, hx112_0, hl112_0, hi112_0⟩ := at_L2 HR1.out x13_1 p112 q112
         cases e112
         have HR112_0 := Aside0.mk hi112_0
         have HC112_0 := Aside0.mk hl112_0
         clear hi112_0 hl112_0
         replace p112 := eq_true p112
         replace q112 := eq_true q112
         go_wp2_with (first | (go_at_call 92; (with_reducible refine (laws_fSame.calls k1 _ _ (rd_L2 l0 x13_1) _ _ (rd_L2 l1 x13_1) false _ ?side1 ?side2 ?side3 ?side4 A8.out).mono ?_); (case side1 => repeat (first | exact HR111_0.out | (with_reducible refine Kd.C_alloc ?_ _) | (with_reducible refine Kd.C_drewN ?_ _) | (with_reducible refine Kd.C_drew ?_))); (case side2 => exact HC111_0.out); (case side3 => repeat (first | exact HR112_0.out | (with_reducible refine Kd.C_alloc ?_ _) | (with_reducible refine Kd.C_drewN ?_ _) | (with_reducible refine Kd.C_drew ?_))); (case side4 => exact HC112_0.out); rintro e w' ⟨rfl, ⟨nd, rfl⟩⟩; (try first | exact ⟨rfl, _, World.drewN_drewN _ _ _⟩ | exact ⟨rfl, _, Eq.trans (World.drewN_drewN _ _ _) (congrArg (World.drewN _) (Nat.add_assoc _ _ _))⟩)))
         repeat (go_quiet (first | (go_at_call 92; (with_reducible refine (laws_fSame.calls k1 _ _ (rd_L2 l0 x13_1) _ _ (rd_L2 l1 x13_1) false _ ?side1 ?side2 ?side3 ?side4 A8.out).mono ?_); (case side1 => repeat (first | exact HR111_0.out | (with_reducible refine Kd.C_alloc ?_ _) | (with_reducible refine Kd.C_drewN ?_ _) | (with_reducible refine Kd.C_drew ?_))); (case side2 => exact HC111_0.out); (case side3 => repeat (first | exact HR112_0.out | (with_reducible refine Kd.C_alloc ?_ _) | (with_reducible refine Kd.C_drewN ?_ _) | (with_reducible refine Kd.C_drew ?_))); (case side4 => exact HC112_0.out); rintro e w' ⟨rfl, ⟨nd, rfl⟩⟩; (try first | exact ⟨rfl, _, World.drewN_drewN _ _ _⟩ | exact ⟨rfl, _, Eq.trans (World.drewN_drewN _ _ _) (congrArg (World.drewN _) (Nat.add_assoc _ _ _))⟩))); try go_wp2_with (first | (go_at_call 92; (with_reducible refine (laws_fSame.calls k1 _ _ (rd_L2 l0 x13_1) _ _ (rd_L2 l1 x13_1) false _ ?side1 ?side2 ?side3 ?side4 A8.out).mono ?_); (case side1 => repeat (first | exact HR111_0.out | (with_reducible refine Kd.C_alloc ?_ _) | (with_reducible refine Kd.C_drewN ?_ _) | (with_reducible refine Kd.C_drew ?_))); (case side2 => exact HC111_0.out); (case side3 => repeat (first | exact HR112_0.out | (with_reducible refine Kd.C_alloc ?_ _) | (with_reducible refine Kd.C_drewN ?_ _) | (with_reducible refine Kd.C_drew ?_))); (case side4 => exact HC112_0.out); rintro e w' ⟨rfl, ⟨nd, rfl⟩⟩; (try first | exact ⟨rfl, _, World.drewN_drewN _ _ _⟩ | exact ⟨rfl, _, Eq.trans (World.drewN_drewN _ _ _) (congrArg (World.drewN _) (Nat.add_assoc _ _ _))⟩))))
         go_ret
         exact ⟨by first | rfl | (simp; done) | (simp [*]; done) | (simp [isEmpty_bne]; done) | (simp [i64_w]; done) | (simp only [i64_w]; done), by repeat (first | exact Drawn0.refl _ | apply Drawn0.step)⟩
       ·
        rw [if_neg c7] at H
        exact absurd H (by simp)
      ·
       rw [if_neg c6] at H
       exact absurd H (by simp)
     ·
      rw [if_neg c5] at H
      exact absurd H (by simp)
    ·
     rw [if_neg c4] at H
     have c4b0 : decide (x13_1 < (l0.length : Int)) = false := decide_eq_false c4
     clear c4
     obtain rfl := Option.some.inj H
     go_wp2
     repeat (go_quiet (fail); try go_wp2)
     go_ret
     exact ⟨by first | rfl | (simp; done) | (simp [*]; done) | (simp [isEmpty_bne]; done) | (simp [i64_w]; done) | (simp only [i64_w]; done), by repeat (first | exact Drawn0.refl _ | apply Drawn0.step)⟩
 ·
  rw [if_neg c3] at H
  have c3b0 : ((l0.length : Int) == (l1.length : Int)) = false := beq_eq_false_iff_ne.mpr c3
  have c3b1 : ((l0.length : Int) != (l1.length : Int)) = true := bne_iff_ne.mpr c3
  have c3b2 : (l0.length == l1.length) = false := by first | simpa using c3 | (simp at c3 ⊢; omega)
  obtain rfl := Option.some.inj H
  go_enter Tryz.func33, Tryz.ntmps33
  go_wp2
  repeat (go_quiet (fail); try go_wp2)
  go_ret
  exact ⟨by first | rfl | (simp; done) | (simp [*]; done) | (simp [isEmpty_bne]; done) | (simp [i64_w]; done) | (simp only [i64_w]; done), by repeat (first | exact Drawn0.refl _ | apply Drawn0.step)⟩
end Go.Proofs.YtkplbgeccaadeaaGreatDoor.PA
