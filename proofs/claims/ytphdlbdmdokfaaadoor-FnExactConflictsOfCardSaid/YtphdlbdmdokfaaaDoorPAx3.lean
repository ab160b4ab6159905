-- printed by xprint.py: the kit's print.py with given contracts
import Derived.Test.YtphdlbdmdokfaaaDoorPAx0
import Derived.Test.YtphdlbdmdokfaaaDoorPAx1
import Derived.Test.YtphdlbdmdokfaaaDoorPAx2
namespace Go.Proofs.YtphdlbdmdokfaaaDoor.PA
open Go.RowKit Go.Proofs.YtphdlbdmdokfaaaDoorW.PrintWords Go.Proofs.YtphdlbdmdokfaaaDoorW.PrintLast Go.Proofs.YtphdlbdmdokfaaaDoorW.PrintMore
attribute [local go_sem] max2_int min2_int max_two min_two max_three min_three max_four min_four   -- for this text's walks alone
set_option linter.unusedVariables false
set_option linter.unusedSimpArgs false

/-! ### laws_heldIntSS: function 20 -/
def laws_heldIntSS.l0 : Nat → List (List Int) → Int → Int → Option (Int)
  | 0, _, _, _ => none
  | k + 1, x0, x1, x5 => if x5 < (x0.length : Int) then (if 0 ≤ x5 then ((laws_heldIntS.f k (rd_L2 x0 x5) x1).bind fun t157 => (if t157 < 0 then (some (-1)) else (laws_heldIntSS.l0 k x0 t157 (wrap64 (x5 + 1))))) else (none)) else (some x1)
def laws_heldIntSS.f (k : Nat) (l0 : List (List Int)) (a1 : Int) : Option (Int) := laws_heldIntSS.l0 k l0 a1 0
theorem laws_heldIntSS.mono_l : ∀ k, (∀ y0 y1 y2, LeO (laws_heldIntSS.l0 k y0 y1 y2) (laws_heldIntSS.l0 (k + 1) y0 y1 y2))
  | 0 => fun _ _ _ r h => by simp [laws_heldIntSS.l0] at h
  | k + 1 => by
    have ih0 := laws_heldIntSS.mono_l k
    · intro y0 y1 y2
      unfold laws_heldIntSS.l0
      repeat' first
      | (with_reducible exact ih0 _ _ _)
      | (with_reducible exact laws_heldIntS.mono _ _ _)
      | (with_reducible exact LeO.refl _)
      | (with_reducible exact LeO.none _)
      | (with_reducible refine LeO.ite ?_ ?_)
      | (with_reducible refine LeO.bind ?_ (fun _ => ?_))
      | exact ih0 _ _ _
      | exact laws_heldIntS.mono _ _ _
      | exact LeO.none _
      | refine LeO.ite ?_ ?_
      | refine LeO.bind ?_ (fun _ => ?_)
theorem laws_heldIntSS.mono : ∀ a0 a1 k, LeO (laws_heldIntSS.f k a0 a1) (laws_heldIntSS.f (k + 1) a0 a1) := by
  intro a0 a1 k
  have ih0 := laws_heldIntSS.mono_l k
  unfold laws_heldIntSS.f
  repeat' first
      | (with_reducible exact ih0 _ _ _)
      | (with_reducible exact laws_heldIntS.mono _ _ _)
      | (with_reducible exact LeO.refl _)
      | (with_reducible exact LeO.none _)
      | (with_reducible refine LeO.ite ?_ ?_)
      | (with_reducible refine LeO.bind ?_ (fun _ => ?_))
      | exact ih0 _ _ _
      | exact laws_heldIntS.mono _ _ _
      | exact LeO.none _
      | refine LeO.ite ?_ ?_
      | refine LeO.bind ?_ (fun _ => ?_)
set_option maxHeartbeats 8000000 in
set_option maxRecDepth 100000 in
theorem laws_heldIntSS.calls (k : Nat) (A0 : Option Addr) (c0 : Nat) (l0 : List (List Int)) (a1 : Int) (r : Int) (w : World) (hr0 : Kd.C (Kd.slice 3 (Kd.int .i64)) w A0 l0.length l0) (hc0 : l0.length ≤ c0) (h : laws_heldIntSS.f k l0 a1 = some r) :
    Calls Tryd.prog 20 #[.slice A0 l0.length c0, .int .i64 a1] w fun e w' => e = .returned (.int .i64 r) ∧ Drawn0 w w' := by
  have HR0 := Aside0.mk hr0
  have HC0 := Aside0.mk hc0
  clear hr0 hc0
  have H : (laws_heldIntSS.l0 k l0 a1 0) = some r := h
  clear h
  have H' := Aside0.mk H
  clear H
  go_enter Tryd.func20, Tryd.ntmps20
  go_wp2
  go_loopg [1, 5] k (fun kq v1 v5 w' => ∃ (x1_1 : Int) (x5_1 : Int), v1 = .int .i64 x1_1 ∧ v5 = .int .i64 x5_1 ∧ Aside0 (laws_heldIntSS.l0 kq l0 x1_1 x5_1 = some r) ∧ Aside0 (kq ≤ k) ∧ Drawn0 w w')
  case atStart => exact ⟨(a1), (0), (by first | rfl | (simp; done) | (simp [*]; done) | (simp [isEmpty_bne]; done) | (simp [i64_w]; done) | (simp only [i64_w]; done)), (by first | rfl | (simp; done) | (simp [*]; done) | (simp [isEmpty_bne]; done) | (simp [i64_w]; done) | (simp only [i64_w]; done)), H', ⟨Nat.le_refl _⟩, by repeat (first | exact Drawn0.refl _ | apply Drawn0.step)⟩
  case round =>
    clear H'
    try clear c2
    try clear p2
    obtain ⟨x1_1, x5_1, rfl, rfl, HA, HK1, ⟨m1, rfl⟩⟩ := hrel
    cases gk with
    | zero => exact absurd HA.out (by simp [laws_heldIntSS.l0])
    | succ k1 =>
      have H := HA.out
      clear HA
      simp only [laws_heldIntSS.l0] at H
      by_cases c3 : x5_1 < (l0.length : Int)
      · rw [if_pos c3] at H
        have c3b0 : decide (x5_1 < (l0.length : Int)) = true := decide_eq_true c3
        clear c3
        by_cases c4 : 0 ≤ x5_1
        · rw [if_pos c4] at H
          have c4b0 : decide (0 ≤ x5_1) = true := decide_eq_true c4
          clear c4
          replace H := Option.bind_eq_some_iff.mp H
          obtain ⟨t157, A50, H⟩ := H
          replace H : (if t157 < 0 then (some (-1)) else (laws_heldIntSS.l0 k1 l0 t157 (wrap64 (x5_1 + 1)))) = some r := H
          have A5 := Aside0.mk A50
          clear A50
          by_cases c6 : t157 < 0
          · rw [if_pos c6] at H
            have c6b0 : decide (t157 < 0) = true := decide_eq_true c6
            clear c6
            obtain rfl := Option.some.inj H
            have p156 : 0 ≤ (x5_1 : Int) := of_decide_eq_true (by first | (with_reducible assumption) | assumption)
            have q156 : x5_1 < (l0.length : Int) := of_decide_eq_true (by first | (with_reducible assumption) | assumption)
            obtain ⟨ad156, A156_0, c156_0, e156, hx156_0, hl156_0, hi156_0⟩ := at_L2 HR0.out x5_1 p156 q156
            cases e156
            have HR156_0 := Aside0.mk hi156_0
            have HC156_0 := Aside0.mk hl156_0
            clear hi156_0 hl156_0
            replace p156 := eq_true p156
            replace q156 := eq_true q156
            go_wp2_with (first | ((with_reducible refine gate_callee (f := 34) rfl ?_); refine goesL_ (some 17) rfl rfl Tryd.func34 (by kernel_rfl) rfl #[.slice A156_0 (rd_L2 l0 x5_1).length c156_0, .int .i64 x1_1] rfl (by (try simp only [List.map_toArray, List.map_cons, List.map_nil]); first | done | rfl | (simp only [List.length_drop, List.length_take]; rfl)) ?_; (with_reducible refine (laws_heldIntS.calls k1 _ _ (rd_L2 l0 x5_1) x1_1 t157 _ ?side1 ?side2 A5.out).mono ?_); (case side1 => repeat (first | exact HR156_0.out | (with_reducible refine Kd.C_alloc ?_ _) | (with_reducible refine Kd.C_drewN ?_ _) | (with_reducible refine Kd.C_drew ?_))); (case side2 => exact HC156_0.out); rintro e w' ⟨rfl, ⟨nd, rfl⟩⟩; refine ⟨_, rfl, ?_⟩))
            go_ret
            exact ⟨by first | rfl | (simp; done) | (simp [*]; done) | (simp [isEmpty_bne]; done) | (simp [i64_w]; done) | (simp only [i64_w]; done), by repeat (first | exact Drawn0.refl _ | apply Drawn0.step)⟩
          · rw [if_neg c6] at H
            have c6b0 : decide (t157 < 0) = false := decide_eq_false c6
            clear c6
            have H' := Aside0.mk H
            clear H
            have p156 : 0 ≤ (x5_1 : Int) := of_decide_eq_true (by first | (with_reducible assumption) | assumption)
            have q156 : x5_1 < (l0.length : Int) := of_decide_eq_true (by first | (with_reducible assumption) | assumption)
            obtain ⟨ad156, A156_0, c156_0, e156, hx156_0, hl156_0, hi156_0⟩ := at_L2 HR0.out x5_1 p156 q156
            cases e156
            have HR156_0 := Aside0.mk hi156_0
            have HC156_0 := Aside0.mk hl156_0
            clear hi156_0 hl156_0
            replace p156 := eq_true p156
            replace q156 := eq_true q156
            go_wp2_with (first | ((with_reducible refine gate_callee (f := 34) rfl ?_); refine goesL_ (some 17) rfl rfl Tryd.func34 (by kernel_rfl) rfl #[.slice A156_0 (rd_L2 l0 x5_1).length c156_0, .int .i64 x1_1] rfl (by (try simp only [List.map_toArray, List.map_cons, List.map_nil]); first | done | rfl | (simp only [List.length_drop, List.length_take]; rfl)) ?_; (with_reducible refine (laws_heldIntS.calls k1 _ _ (rd_L2 l0 x5_1) x1_1 t157 _ ?side1 ?side2 A5.out).mono ?_); (case side1 => repeat (first | exact HR156_0.out | (with_reducible refine Kd.C_alloc ?_ _) | (with_reducible refine Kd.C_drewN ?_ _) | (with_reducible refine Kd.C_drew ?_))); (case side2 => exact HC156_0.out); rintro e w' ⟨rfl, ⟨nd, rfl⟩⟩; refine ⟨_, rfl, ?_⟩))
            go_roundg k1
            case measure => have := HK1.out; omega
            case rel => exact ⟨(t157), (wrap64 (x5_1 + 1)), (by first | rfl | (simp; done) | (simp [*]; done) | (simp [isEmpty_bne]; done) | (simp [i64_w]; done) | (simp only [i64_w]; done)), (by first | rfl | (simp; done) | (simp [*]; done) | (simp [isEmpty_bne]; done) | (simp [i64_w]; done) | (simp only [i64_w]; done)), H', ⟨by have := HK1.out; omega⟩, by repeat (first | exact Drawn0.refl _ | apply Drawn0.step)⟩
        · rw [if_neg c4] at H
          exact absurd H (by simp)
      · rw [if_neg c3] at H
        have c3b0 : decide (x5_1 < (l0.length : Int)) = false := decide_eq_false c3
        clear c3
        obtain rfl := Option.some.inj H
        go_wp2
        go_ret
        exact ⟨by first | rfl | (simp; done) | (simp [*]; done) | (simp [isEmpty_bne]; done) | (simp [i64_w]; done) | (simp only [i64_w]; done), by repeat (first | exact Drawn0.refl _ | apply Drawn0.step)⟩


/-! ### laws_FnExactConflictsOf: function 3 -/
/-- the law on its good way -/
def laws_FnExactConflictsOf.f (k : Nat) (l0 : List ByteArray) : Option Bool :=
  (laws_szStringS.f k l0 1048576).bind fun t => if t < 0 then some true else
  (laws_toStringS.f k l0).bind fun s => (spec_ConflictsOf.f k s).bind fun r => (impl_ConflictsOf.f k s).bind fun g =>
  (laws_eqIntSS.f k g.1 r.1).bind fun e1 => (laws_eqStringS.f k s s).bind fun e2 => (laws_markStringS.f k s 1).bind fun m1 =>
  (laws_markIntSS.f k g.1 1).bind fun m2 => (laws_heldIntSS.f k m2.2 1).bind fun q =>
  if e1 = true ∧ g.2 = r.2 ∧ e2 = true ∧ 0 ≤ m1.1 ∧ 0 ≤ q ∧ q = m2.1 then some true else none
theorem laws_FnExactConflictsOf.mono : ∀ l0 k, LeO (laws_FnExactConflictsOf.f k l0) (laws_FnExactConflictsOf.f (k + 1) l0) := by
  intro a0 k
  unfold laws_FnExactConflictsOf.f
  exact LeO.bind (laws_szStringS.mono _ _ _) (fun _ => LeO.ite (LeO.refl _) (LeO.bind (laws_toStringS.mono _ _) (fun _ => LeO.bind (spec_ConflictsOf.mono _ _) (fun _ => LeO.bind (impl_ConflictsOf.mono _ _) (fun _ => LeO.bind (laws_eqIntSS.mono _ _ _) (fun _ => LeO.bind (laws_eqStringS.mono _ _ _) (fun _ => LeO.bind (laws_markStringS.mono _ _ _) (fun _ => LeO.bind (laws_markIntSS.mono _ _ _) (fun _ => LeO.bind (laws_heldIntSS.mono _ _ _) (fun _ => LeO.refl _))))))))))
set_option maxHeartbeats 16000000 in
set_option maxRecDepth 100000 in
theorem laws_FnExactConflictsOf.calls (k : Nat) (A0 : Option Addr) (c0 : Nat) (l0 : List ByteArray) (r : Bool) (w : World) (hr0 : Kd.C Kd.string w A0 l0.length l0) (hc0 : l0.length ≤ c0) (h : laws_FnExactConflictsOf.f k l0 = some r) :
    Calls Tryd.prog 3 #[.slice A0 l0.length c0] w fun e w' => e = .returned (.bool r) ∧ Below w.heap.size w w' := by
  obtain ⟨t, hsz, h⟩ := Option.bind_eq_some_iff.mp h
  have HR0 := Aside0.mk hr0
  have HC0 := Aside0.mk hc0
  have HSZ := Aside0.mk (laws_szStringS.calls k A0 c0 l0 1048576 t w hr0 hc0 hsz)
  clear hr0 hc0 hsz
  split at h
  · rename_i ht
    have e := Option.some.inj h
    subst e
    have z1 : decide (t < 0) = true := decide_eq_true ht
    have z2 : (t < 0) = True := eq_true ht
    clear h ht
    go_enter Tryd.func3, Tryd.ntmps3
    go_wp2_with fail
    refine HSZ.out.mono ?_
    rintro e w1 ⟨rfl, ⟨nd, rfl⟩⟩
    go_wp2
    go_ret
    exact ⟨rfl, pw_below_drewN (Below.refl w.heap.size w) nd⟩
  · rename_i ht
    have z1 : decide (t < 0) = false := decide_eq_false ht
    have z2 : (t < 0) = False := eq_false ht
    obtain ⟨s, hto, k1⟩ := Option.bind_eq_some_iff.mp h
    obtain ⟨⟨x1, x2⟩, hsp, k2⟩ := Option.bind_eq_some_iff.mp k1
    obtain ⟨⟨g1, g2⟩, him, k3⟩ := Option.bind_eq_some_iff.mp k2
    obtain ⟨e1, heq, k4⟩ := Option.bind_eq_some_iff.mp k3
    obtain ⟨e2, heqs, k5⟩ := Option.bind_eq_some_iff.mp k4
    obtain ⟨⟨m1, m1l⟩, hms, k6⟩ := Option.bind_eq_some_iff.mp k5
    obtain ⟨⟨m2, m2l⟩, hmm, k7⟩ := Option.bind_eq_some_iff.mp k6
    obtain ⟨q, hq, k8⟩ := Option.bind_eq_some_iff.mp k7
    clear h k1 k2 k3 k4 k5 k6 k7
    simp only at hsp him heq heqs hms hmm hq k8
    split at k8
    rotate_left
    · exact absurd k8 (by simp)
    rename_i hcond
    have e := Option.some.inj k8
    clear k8 ht
    subst e
    obtain ⟨rfl, rfl, rfl, hm1, hq0, rfl⟩ := hcond
    have HTO := Aside0.mk (fun (W : World) (hW : Below w.heap.size w W) => laws_toStringS.calls k A0 c0 l0 s W (Kd.C_below HR0.out hW) HC0.out hto)
    have HSP := Aside0.mk hsp
    have HIM := Aside0.mk him
    have HEQ := Aside0.mk heq
    have HES := Aside0.mk heqs
    have HMS := Aside0.mk hms
    have HMM := Aside0.mk hmm
    have HQ := Aside0.mk hq
    have n1 : decide (m1 < 0) = false := decide_eq_false (by omega)
    have n2 : (m1 < 0) = False := eq_false (by omega)
    have n3 : decide (q < 0) = false := decide_eq_false (by omega)
    have n4 : (q < 0) = False := eq_false (by omega)
    have n5 : (g2 != g2) = false := bne_self_eq_false _
    have n6 : (q != q) = false := bne_self_eq_false _
    clear hto hsp him heq heqs hms hmm hq hm1 hq0
    go_enter Tryd.func3, Tryd.ntmps3
    go_wp2_with fail
    refine HSZ.out.mono ?_
    rintro e wq ⟨rfl, ⟨nd, rfl⟩⟩
    have hb := pw_below_drewN (Below.refl w.heap.size w) nd
    obtain ⟨w1, hw⟩ : ∃ W, W = w.drewN nd := ⟨_, rfl⟩
    rw [← hw] at hb ⊢
    clear hw
    have HB := Aside0.mk hb
    have HS := Aside0.mk (show w.heap.size ≤ w1.heap.size from hb.size)
    clear hb HSZ
    go_wp2_with fail
    refine (HTO.out _ HB.out).mono ?_
    rintro e w2 ⟨vX1, rfl, hX1, hb⟩
    have HB_n := Aside0.mk (below_step HB.out hb)
    clear HB
    have HB := HB_n
    clear HB_n
    have HS_n := Aside0.mk (And.intro HS.out (show w1.heap.size ≤ w2.heap.size from (hb).size))
    clear HS
    have HS := HS_n
    clear HS_n
    have X1 := Aside0.mk (Kd.R_lower (Kd.R_mono (Kd.R_bound hX1) (fun k hk => And.intro hk.2.1 hk.2.2.1)) (show w.heap.size ≤ w1.heap.size by have := HS.out; omega))
    obtain ⟨AX1, cX1, eX1, hcX1, _⟩ := Kd.R_reads X1.out
    subst eX1
    have HCX1 := Aside0.mk hcX1
    clear hX1 hcX1 hb
    go_wp2_with fail
    refine (spec_ConflictsOf.calls k AX1 cX1 s x1 g2 w2 (Kd.R_reads' X1.out).2.2 HCX1.out HSP.out).mono ?_
    rintro e w3 ⟨vSW, rfl, hSW, hb⟩
    have HB_n := Aside0.mk (below_step HB.out hb)
    have X1_n := Aside0.mk (Kd.R_below X1.out hb)
    clear HB X1
    have HB := HB_n
    have X1 := X1_n
    clear HB_n X1_n
    have HS_n := Aside0.mk (And.intro HS.out (show w2.heap.size ≤ w3.heap.size from (hb).size))
    clear HS
    have HS := HS_n
    clear HS_n
    have SW := Aside0.mk (Kd.S_lower (Kd.S_mono (Kd.S_bound hSW) (fun k hk => And.intro hk.2.1 hk.2.2.1)) (show w.heap.size ≤ w2.heap.size by have := HS.out; omega))
    obtain ⟨ASW, cSW, eSW, hcSW, _⟩ := Kd.S_reads SW.out
    subst eSW
    have HCSW := Aside0.mk hcSW
    clear hSW hcSW hb
    clear X1 HCX1
    go_wp2_with fail
    refine (HTO.out _ HB.out).mono ?_
    rintro e w4 ⟨vRX, rfl, hRX, hb⟩
    have HB_n := Aside0.mk (below_step HB.out hb)
    have SW_n := Aside0.mk (Kd.S_below SW.out hb)
    clear HB SW
    have HB := HB_n
    have SW := SW_n
    clear HB_n SW_n
    have HS_n := Aside0.mk (And.intro HS.out (show w3.heap.size ≤ w4.heap.size from (hb).size))
    clear HS
    have HS := HS_n
    clear HS_n
    have RX := Aside0.mk (Kd.R_lower (Kd.R_mono (Kd.R_bound hRX) (fun k hk => And.intro hk.2.1 hk.2.2.1)) (show w.heap.size ≤ w3.heap.size by have := HS.out; omega))
    obtain ⟨ARX, cRX, eRX, hcRX, _⟩ := Kd.R_reads RX.out
    subst eRX
    have HCRX := Aside0.mk hcRX
    clear hRX hcRX hb
    go_wp2_with fail
    refine (impl_ConflictsOf.calls k ARX cRX s g1 g2 w4 (Kd.R_reads' RX.out).2.2 HCRX.out HIM.out).mono ?_
    rintro e w6 ⟨vSG, rfl, hSG, hb⟩
    have HB_n := Aside0.mk (below_step HB.out hb)
    have SW_n := Aside0.mk (Kd.S_below SW.out hb)
    have RX_n := Aside0.mk (Kd.R_below RX.out hb)
    clear HB SW RX
    have HB := HB_n
    have SW := SW_n
    have RX := RX_n
    clear HB_n SW_n RX_n
    have HS_n := Aside0.mk (And.intro HS.out (show w4.heap.size ≤ w6.heap.size from (hb).size))
    clear HS
    have HS := HS_n
    clear HS_n
    have SG := Aside0.mk (Kd.S_lower (Kd.S_mono (Kd.S_bound hSG) (fun k hk => And.intro hk.2.1 hk.2.2.1)) (show w.heap.size ≤ w4.heap.size by have := HS.out; omega))
    obtain ⟨ASG, cSG, eSG, hcSG, _⟩ := Kd.S_reads SG.out
    subst eSG
    have HCSG := Aside0.mk hcSG
    clear hSG hcSG hb
    go_wp2_with fail
    refine (laws_eqIntSS.calls k _ _ g1 _ _ x1 true w6 (Kd.S_reads' SG.out).2.2 HCSG.out (Kd.S_reads' SW.out).2.2 HCSW.out HEQ.out).mono ?_
    rintro e wq ⟨rfl, ⟨nd, rfl⟩⟩
    have hb := pw_below_drewN (Below.refl w6.heap.size w6) nd
    obtain ⟨w7, hw⟩ : ∃ W, W = w6.drewN nd := ⟨_, rfl⟩
    rw [← hw] at hb ⊢
    clear hw
    have HB_n := Aside0.mk (below_step HB.out hb)
    have SW_n := Aside0.mk (Kd.S_below SW.out hb)
    have RX_n := Aside0.mk (Kd.R_below RX.out hb)
    have SG_n := Aside0.mk (Kd.S_below SG.out hb)
    clear HB SW RX SG
    have HB := HB_n
    have SW := SW_n
    have RX := RX_n
    have SG := SG_n
    clear HB_n SW_n RX_n SG_n
    have HS_n := Aside0.mk (And.intro HS.out (show w6.heap.size ≤ w7.heap.size from (hb).size))
    clear HS
    have HS := HS_n
    clear HS_n
    clear hb
    go_wp2_with fail
    refine (HTO.out _ HB.out).mono ?_
    rintro e w7b ⟨vR3, rfl, hR3, hb⟩
    have HB_n := Aside0.mk (below_step HB.out hb)
    have SW_n := Aside0.mk (Kd.S_below SW.out hb)
    have RX_n := Aside0.mk (Kd.R_below RX.out hb)
    have SG_n := Aside0.mk (Kd.S_below SG.out hb)
    clear HB SW RX SG
    have HB := HB_n
    have SW := SW_n
    have RX := RX_n
    have SG := SG_n
    clear HB_n SW_n RX_n SG_n
    have HS_n := Aside0.mk (And.intro HS.out (show w7.heap.size ≤ w7b.heap.size from (hb).size))
    clear HS
    have HS := HS_n
    clear HS_n
    have R3 := Aside0.mk (Kd.R_lower (Kd.R_mono (Kd.R_bound hR3) (fun k hk => And.intro hk.2.1 hk.2.2.1)) (show w.heap.size ≤ w7.heap.size by have := HS.out; omega))
    obtain ⟨AR3, cR3, eR3, hcR3, _⟩ := Kd.R_reads R3.out
    subst eR3
    have HCR3 := Aside0.mk hcR3
    clear hR3 hcR3 hb
    go_wp2_with fail
    refine (laws_eqStringS.calls k _ _ s _ _ s true w7b (Kd.R_reads' RX.out).2.2 HCRX.out (Kd.R_reads' R3.out).2.2 HCR3.out HES.out).mono ?_
    rintro e wq ⟨rfl, ⟨nd, rfl⟩⟩
    have hb := pw_below_drewN (Below.refl w7b.heap.size w7b) nd
    obtain ⟨w8, hw⟩ : ∃ W, W = w7b.drewN nd := ⟨_, rfl⟩
    rw [← hw] at hb ⊢
    clear hw
    have HB_n := Aside0.mk (below_step HB.out hb)
    have SW_n := Aside0.mk (Kd.S_below SW.out hb)
    have RX_n := Aside0.mk (Kd.R_below RX.out hb)
    have SG_n := Aside0.mk (Kd.S_below SG.out hb)
    have R3_n := Aside0.mk (Kd.R_below R3.out hb)
    clear HB SW RX SG R3
    have HB := HB_n
    have SW := SW_n
    have RX := RX_n
    have SG := SG_n
    have R3 := R3_n
    clear HB_n SW_n RX_n SG_n R3_n
    have HS_n := Aside0.mk (And.intro HS.out (show w7b.heap.size ≤ w8.heap.size from (hb).size))
    clear HS
    have HS := HS_n
    clear HS_n
    clear hb
    clear R3 HCR3
    go_wp2_with fail
    refine (laws_markStringS.calls k _ _ s 1 m1 m1l w w8 HB.out RX.out HMS.out).mono ?_
    rintro e w9 ⟨rfl, _, hb, hk⟩
    clear HB
    have HB := Aside0.mk hb
    have SW_n := Aside0.mk (Kd.S_kept SW.out hk (fun k h1 h2 => by have := HS.out; omega))
    have SG_n := Aside0.mk (Kd.S_kept SG.out hk (fun k h1 h2 => by have := HS.out; omega))
    clear SW SG
    have SW := SW_n
    have SG := SG_n
    clear SW_n SG_n
    clear RX
    have HS_n := Aside0.mk (And.intro HS.out (show w8.heap.size ≤ w9.heap.size from hk.1))
    clear HS hb hk
    have HS := HS_n
    clear HS_n
    go_wp2_with fail
    refine (laws_eqIntSS.calls k _ _ g1 _ _ x1 true w9 (Kd.S_reads' SG.out).2.2 HCSG.out (Kd.S_reads' SW.out).2.2 HCSW.out HEQ.out).mono ?_
    rintro e wq ⟨rfl, ⟨nd, rfl⟩⟩
    have hb := pw_below_drewN (Below.refl w9.heap.size w9) nd
    obtain ⟨w10, hw⟩ : ∃ W, W = w9.drewN nd := ⟨_, rfl⟩
    rw [← hw] at hb ⊢
    clear hw
    have HB_n := Aside0.mk (below_step HB.out hb)
    have SW_n := Aside0.mk (Kd.S_below SW.out hb)
    have SG_n := Aside0.mk (Kd.S_below SG.out hb)
    clear HB SW SG
    have HB := HB_n
    have SW := SW_n
    have SG := SG_n
    clear HB_n SW_n SG_n
    have HS_n := Aside0.mk (And.intro HS.out (show w9.heap.size ≤ w10.heap.size from (hb).size))
    clear HS
    have HS := HS_n
    clear HS_n
    clear hb
    go_wp2_with fail
    refine (laws_markIntSS.calls k _ _ g1 1 q m2l w w10 HB.out SG.out HMM.out).mono ?_
    rintro e w11 ⟨rfl, hSG, hb, hk⟩
    clear HB
    have HB := Aside0.mk hb
    have SW_n := Aside0.mk (Kd.S_kept SW.out hk (fun k h1 h2 => by have := HS.out; omega))
    clear SW
    have SW := SW_n
    clear SW_n
    clear SG
    have SG := Aside0.mk (show Kd.S (Kd.slice 3 (Kd.int .i64)) 41 w11 w.heap.size (fun k => (w4.heap.size ≤ k ∧ k < w6.heap.size) ∨ w10.heap.size ≤ k) (.slice ASG g1.length cSG) m2l from hSG)
    have hlen := (Kd.S_reads' SG.out).1
    have HLN := Aside0.mk hlen
    have HCM : Aside0 (m2l.length ≤ cSG) := ⟨by rw [← hlen]; exact HCSG.out⟩
    have HS_n := Aside0.mk (And.intro HS.out (show w10.heap.size ≤ w11.heap.size from hk.1))
    clear HS hb hk hSG hlen
    have HS := HS_n
    clear HS_n
    go_wp2_with fail
    refine ((by rw [HLN.out]; exact laws_heldIntSS.calls k _ _ m2l 1 q w11 ((Kd.S_reads' SG.out).2.2) HCM.out HQ.out : Calls Tryd.prog 20 #[.slice ASG g1.length cSG, .int .i64 1] w11 fun e w' => e = .returned (.int .i64 q) ∧ Drawn0 w11 w')).mono ?_
    rintro e wq ⟨rfl, ⟨nd, rfl⟩⟩
    have hb := pw_below_drewN (Below.refl w11.heap.size w11) nd
    obtain ⟨w12, hw⟩ : ∃ W, W = w11.drewN nd := ⟨_, rfl⟩
    rw [← hw] at hb ⊢
    clear hw
    have HB_n := Aside0.mk (below_step HB.out hb)
    have SW_n := Aside0.mk (Kd.S_below SW.out hb)
    have SG_n := Aside0.mk (Kd.S_below SG.out hb)
    clear HB SW SG
    have HB := HB_n
    have SW := SW_n
    have SG := SG_n
    clear HB_n SW_n SG_n
    have HS_n := Aside0.mk (And.intro HS.out (show w11.heap.size ≤ w12.heap.size from (hb).size))
    clear HS
    have HS := HS_n
    clear HS_n
    clear hb
    go_wp2_with fail
    refine (HTO.out _ HB.out).mono ?_
    rintro e w13 ⟨vX4, rfl, hX4, hb⟩
    have HB_n := Aside0.mk (below_step HB.out hb)
    have SW_n := Aside0.mk (Kd.S_below SW.out hb)
    have SG_n := Aside0.mk (Kd.S_below SG.out hb)
    clear HB SW SG
    have HB := HB_n
    have SW := SW_n
    have SG := SG_n
    clear HB_n SW_n SG_n
    have HS_n := Aside0.mk (And.intro HS.out (show w12.heap.size ≤ w13.heap.size from (hb).size))
    clear HS
    have HS := HS_n
    clear HS_n
    have X4 := Aside0.mk (Kd.R_lower (Kd.R_mono (Kd.R_bound hX4) (fun k hk => And.intro hk.2.1 hk.2.2.1)) (show w.heap.size ≤ w12.heap.size by have := HS.out; omega))
    obtain ⟨AX4, cX4, eX4, hcX4, _⟩ := Kd.R_reads X4.out
    subst eX4
    have HCX4 := Aside0.mk hcX4
    clear hX4 hcX4 hb
    go_wp2_with fail
    refine (impl_ConflictsOf.calls k AX4 cX4 s g1 g2 w13 (Kd.R_reads' X4.out).2.2 HCX4.out HIM.out).mono ?_
    rintro e w14 ⟨vSH, rfl, hSH, hb⟩
    have HB_n := Aside0.mk (below_step HB.out hb)
    have SW_n := Aside0.mk (Kd.S_below SW.out hb)
    have SG_n := Aside0.mk (Kd.S_below SG.out hb)
    have X4_n := Aside0.mk (Kd.R_below X4.out hb)
    clear HB SW SG X4
    have HB := HB_n
    have SW := SW_n
    have SG := SG_n
    have X4 := X4_n
    clear HB_n SW_n SG_n X4_n
    have HS_n := Aside0.mk (And.intro HS.out (show w13.heap.size ≤ w14.heap.size from (hb).size))
    clear HS
    have HS := HS_n
    clear HS_n
    have SH := Aside0.mk (Kd.S_lower (Kd.S_mono (Kd.S_bound hSH) (fun k hk => And.intro hk.2.1 hk.2.2.1)) (show w.heap.size ≤ w13.heap.size by have := HS.out; omega))
    obtain ⟨ASH, cSH, eSH, hcSH, _⟩ := Kd.S_reads SH.out
    subst eSH
    have HCSH := Aside0.mk hcSH
    clear hSH hcSH hb
    clear X4 HCX4
    go_wp2_with fail
    refine (laws_eqIntSS.calls k _ _ g1 _ _ x1 true w14 (Kd.S_reads' SH.out).2.2 HCSH.out (Kd.S_reads' SW.out).2.2 HCSW.out HEQ.out).mono ?_
    rintro e wq ⟨rfl, ⟨nd, rfl⟩⟩
    have hb := pw_below_drewN (Below.refl w14.heap.size w14) nd
    obtain ⟨w15, hw⟩ : ∃ W, W = w14.drewN nd := ⟨_, rfl⟩
    rw [← hw] at hb ⊢
    clear hw
    have HB_n := Aside0.mk (below_step HB.out hb)
    have SW_n := Aside0.mk (Kd.S_below SW.out hb)
    have SG_n := Aside0.mk (Kd.S_below SG.out hb)
    have SH_n := Aside0.mk (Kd.S_below SH.out hb)
    clear HB SW SG SH
    have HB := HB_n
    have SW := SW_n
    have SG := SG_n
    have SH := SH_n
    clear HB_n SW_n SG_n SH_n
    have HS_n := Aside0.mk (And.intro HS.out (show w14.heap.size ≤ w15.heap.size from (hb).size))
    clear HS
    have HS := HS_n
    clear HS_n
    clear hb
    go_wp2_with fail
    refine ((by rw [HLN.out]; exact laws_heldIntSS.calls k _ _ m2l 1 q w15 ((Kd.S_reads' SG.out).2.2) HCM.out HQ.out : Calls Tryd.prog 20 #[.slice ASG g1.length cSG, .int .i64 1] w15 fun e w' => e = .returned (.int .i64 q) ∧ Drawn0 w15 w')).mono ?_
    rintro e wq ⟨rfl, ⟨nd, rfl⟩⟩
    have hb := pw_below_drewN (Below.refl w15.heap.size w15) nd
    obtain ⟨w16, hw⟩ : ∃ W, W = w15.drewN nd := ⟨_, rfl⟩
    rw [← hw] at hb ⊢
    clear hw
    have HB_n := Aside0.mk (below_step HB.out hb)
    have SW_n := Aside0.mk (Kd.S_below SW.out hb)
    have SG_n := Aside0.mk (Kd.S_below SG.out hb)
    have SH_n := Aside0.mk (Kd.S_below SH.out hb)
    clear HB SW SG SH
    have HB := HB_n
    have SW := SW_n
    have SG := SG_n
    have SH := SH_n
    clear HB_n SW_n SG_n SH_n
    have HS_n := Aside0.mk (And.intro HS.out (show w15.heap.size ≤ w16.heap.size from (hb).size))
    clear HS
    have HS := HS_n
    clear HS_n
    clear hb
    go_wp2
    go_ret
    exact ⟨rfl, HB.out⟩

end Go.Proofs.YtphdlbdmdokfaaaDoor.PA
