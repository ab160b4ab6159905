-- printed by xprint.py: the kit's print.py with given contracts
import Derived.Test.YtepkhpnoibillaaPAx0
import Derived.Test.YtepkhpnoibillaaPAx1
import Derived.Test.YtepkhpnoibillaaPAx2
namespace Go.Proofs.Ytepkhpnoibillaa.PA
open Go.RowKit Go.Proofs.YtepkhpnoibillaaW.PrintWords Go.Proofs.YtepkhpnoibillaaW.PrintLast Go.Proofs.YtepkhpnoibillaaW.PrintMore
attribute [local go_sem] max2_int min2_int max_two min_two max_three min_three max_four min_four   -- for this text's walks alone
set_option linter.unusedVariables false
set_option linter.unusedSimpArgs false


/-! ### laws_FnExactMissedSwaps: function 3 -/
theorem held4 {w1 W w' : World} {g1 g2 : Nat} {x0 x1 y0 y1 : Value} (hb : Below W.heap.size W w') (h : W.cell? ⟨g1, 0, none⟩ = some x0 ∧ W.cell? ⟨g1, 1, none⟩ = some x1 ∧ W.cell? ⟨g2, 0, none⟩ = some y0 ∧ W.cell? ⟨g2, 1, none⟩ = some y1 ∧ Below w1.heap.size w1 W) :
    w'.cell? ⟨g1, 0, none⟩ = some x0 ∧ w'.cell? ⟨g1, 1, none⟩ = some x1 ∧ w'.cell? ⟨g2, 0, none⟩ = some y0 ∧ w'.cell? ⟨g2, 1, none⟩ = some y1 ∧ Below w1.heap.size w1 w' :=
  ⟨(hb.cell (World.block_lt_of_cell? W _ h.1)).trans h.1, (hb.cell (World.block_lt_of_cell? W _ h.2.1)).trans h.2.1, (hb.cell (World.block_lt_of_cell? W _ h.2.2.1)).trans h.2.2.1, (hb.cell (World.block_lt_of_cell? W _ h.2.2.2.1)).trans h.2.2.2.1, h.2.2.2.2.trans (hb.mono h.2.2.2.2.size)⟩
/-- the law on its good way -/
def laws_FnExactMissedSwaps.f (k : Nat) (a0_0 : Int) (l0_1 : List Int) (a1 : Int) : Option Bool :=
  (laws_szScheme.f a0_0 l0_1 1048576).bind fun t => if t < 0 then some true else
  (laws_toScheme.f k a0_0 l0_1).bind fun s => (spec_MissedSwaps.f k s.1 s.2 a1).bind fun r => (impl_MissedSwaps.f s.1 s.2 a1).bind fun g =>
  (laws_eqIntSS.f k g.1 r.1).bind fun e1 => (laws_eqScheme.f k s.1 s.2 s.1 s.2).bind fun e2 => (laws_markScheme.f k s.1 s.2 1).bind fun m1 =>
  (laws_markIntSS.f k g.1 1).bind fun m2 => (laws_heldIntSS.f k m2.2 1).bind fun q =>
  if e1 = true ∧ g.2 = r.2 ∧ e2 = true ∧ 0 ≤ m1.1 ∧ 0 ≤ q ∧ q = m2.1 then some true else none
theorem laws_FnExactMissedSwaps.mono : ∀ a0_0 l0_1 a1 k, LeO (laws_FnExactMissedSwaps.f k a0_0 l0_1 a1) (laws_FnExactMissedSwaps.f (k + 1) a0_0 l0_1 a1) := by
  intro a0 a1 a2 k
  unfold laws_FnExactMissedSwaps.f
  exact LeO.bind (LeO.refl _) (fun _ => LeO.ite (LeO.refl _) (LeO.bind (laws_toScheme.mono _ _ _) (fun _ => LeO.bind (spec_MissedSwaps.mono _ _ _ _) (fun _ => LeO.bind (LeO.refl _) (fun _ => LeO.bind (laws_eqIntSS.mono _ _ _) (fun _ => LeO.bind (laws_eqScheme.mono _ _ _ _ _) (fun _ => LeO.bind (laws_markScheme.mono _ _ _ _) (fun _ => LeO.bind (laws_markIntSS.mono _ _ _) (fun _ => LeO.bind (laws_heldIntSS.mono _ _ _) (fun _ => LeO.refl _))))))))))
set_option maxHeartbeats 16000000 in
set_option maxRecDepth 100000 in
theorem laws_FnExactMissedSwaps.calls (k : Nat) (a0_0 : Int) (A0_1 : Option Addr) (c0_1 : Nat) (l0_1 : List Int) (a1 : Int) (r : Bool) (w : World) (hr0_1 : Kd.C (Kd.int .i64) w A0_1 l0_1.length l0_1) (hc0_1 : l0_1.length ≤ c0_1) (h : laws_FnExactMissedSwaps.f k a0_0 l0_1 a1 = some r) :
    Calls Try.prog 3 #[.agg #[.int .i64 a0_0, .slice A0_1 l0_1.length c0_1], .int .i64 a1] w fun e w' => e = .returned (.bool r) ∧ Below w.heap.size w w' := by
  have hu1 := Try.underlying24
  have hu2 := Try.underlying29
  obtain ⟨t, hsz, h⟩ := Option.bind_eq_some_iff.mp h
  have HR0 := Aside0.mk hr0_1
  have HC0 := Aside0.mk hc0_1
  have hb0 : Below w.heap.size w (w.alloc (.cells #[.int .i64 a0_0, .slice A0_1 l0_1.length c0_1] 24)) := (Below.refl _ w).alloc (Nat.le_refl _) _
  have HSZ := Aside0.mk (laws_szScheme.calls a0_0 A0_1 c0_1 l0_1 1048576 t _ (Kd.C_below hr0_1 hb0) hc0_1 hsz)
  have HB0 := Aside0.mk hb0
  have B0_0 : Aside0 ((w.alloc (.cells #[.int .i64 a0_0, .slice A0_1 l0_1.length c0_1] 24)).heap[w.heap.size]? = some (.cells #[.int .i64 a0_0, .slice A0_1 l0_1.length c0_1] 24 (0, 0))) := ⟨heap_alloc_new w _⟩
  clear hr0_1 hc0_1 hsz hb0
  split at h
  · rename_i ht
    have e := Option.some.inj h
    subst e
    have z1 : decide (t < 0) = true := decide_eq_true ht
    have z2 : (t < 0) = True := eq_true ht
    clear h ht
    go_enter Try.func3, Try.ntmps3
    go_wp2_with fail
    refine HSZ.out.mono ?_
    rintro e w1 ⟨rfl, hb1⟩
    go_wp2
    go_ret
    exact ⟨rfl, below_step HB0.out hb1⟩
  · rename_i ht
    have z1 : decide (t < 0) = false := decide_eq_false ht
    have z2 : (t < 0) = False := eq_false ht
    obtain ⟨⟨s1, s2⟩, hto, k1⟩ := Option.bind_eq_some_iff.mp h
    obtain ⟨⟨x1, x2⟩, hsp, k2⟩ := Option.bind_eq_some_iff.mp k1
    obtain ⟨⟨g1, g2⟩, him, k3⟩ := Option.bind_eq_some_iff.mp k2
    obtain ⟨e1, heq, k4⟩ := Option.bind_eq_some_iff.mp k3
    obtain ⟨e2, heqs, k5⟩ := Option.bind_eq_some_iff.mp k4
    obtain ⟨⟨m1, m1l⟩, hms, k6⟩ := Option.bind_eq_some_iff.mp k5
    obtain ⟨⟨m2, m2l⟩, hmm, k7⟩ := Option.bind_eq_some_iff.mp k6
    obtain ⟨q, hq, k8⟩ := Option.bind_eq_some_iff.mp k7
    clear h k1 k2 k3 k4 k5 k6 k7
    simp only at hsp him heq heqs hms hmm hq k8
    split at k8
    rotate_left
    · exact absurd k8 (by simp)
    rename_i hcond
    have e := Option.some.inj k8
    clear k8 ht
    subst e
    obtain ⟨rfl, rfl, rfl, hm1, hq0, rfl⟩ := hcond
    have HTO := Aside0.mk (fun (W : World) (hW : Below w.heap.size w W) => laws_toScheme.calls k a0_0 A0_1 c0_1 l0_1 s1 s2 W (Kd.C_below HR0.out hW) HC0.out hto)
    have HSP := Aside0.mk hsp
    have HIM := Aside0.mk him
    have HEQ := Aside0.mk heq
    have HES := Aside0.mk heqs
    have HMS := Aside0.mk hms
    have HMM := Aside0.mk hmm
    have HQ := Aside0.mk hq
    have n1 : decide (m1 < 0) = false := decide_eq_false (by omega)
    have n2 : (m1 < 0) = False := eq_false (by omega)
    have n3 : decide (q < 0) = false := decide_eq_false (by omega)
    have n4 : (q < 0) = False := eq_false (by omega)
    have n5 : (g2 != g2) = false := bne_self_eq_false _
    have n6 : (q != q) = false := bne_self_eq_false _
    clear hto hsp him heq heqs hms hmm hq hm1 hq0
    go_enter Try.func3, Try.ntmps3
    go_wp2_with fail
    refine HSZ.out.mono ?_
    rintro e w1 ⟨rfl, hb1⟩
    have HB := Aside0.mk (below_step HB0.out hb1)
    have B0 := Aside0.mk (blk_below B0_0.out hb1)
    have HS := Aside0.mk (show w.heap.size < w1.heap.size from blk_lt B0.out)
    clear HB0 B0_0 hb1 HSZ
    have cB0_0 : _ = some (Value.int .i64 a0_0) := (blk_cell B0.out 0).trans rfl
    have cB0_1 : _ = some (Value.slice A0_1 l0_1.length c0_1) := (blk_cell B0.out 1).trans rfl
    go_wp2_with fail
    refine (HTO.out _ HB.out).mono ?_
    rintro e w2 ⟨vX1, rfl, hX1, hb⟩
    clear cB0_0 cB0_1
    have HB_n := Aside0.mk (below_step HB.out hb)
    have B0_n := Aside0.mk (blk_below B0.out hb)
    clear HB B0
    have HB := HB_n
    have B0 := B0_n
    clear HB_n B0_n
    have HS_n := Aside0.mk (And.intro HS.out (show w1.heap.size ≤ w2.heap.size from (hb).size))
    clear HS
    have HS := HS_n
    clear HS_n
    have X1 := Aside0.mk (Kd.R_lower (Kd.R_mono (Kd.R_bound hX1) (fun k hk => And.intro hk.2.1 hk.2.2.1)) (show w.heap.size ≤ w1.heap.size by have := HS.out; omega))
    obtain ⟨AX1, cX1, eX1, hcX1, _⟩ := Kd.R_reads X1.out
    subst eX1
    have HCX1 := Aside0.mk hcX1
    clear hX1 hcX1 hb
    go_wp2_with fail
    refine (spec_MissedSwaps.calls k s1 AX1 cX1 s2 a1 x1 g2 w2 (Kd.R_reads' X1.out).2.2 HCX1.out HSP.out).mono ?_
    rintro e w3 ⟨vSW, rfl, hSW, hb⟩
    have HB_n := Aside0.mk (below_step HB.out hb)
    have B0_n := Aside0.mk (blk_below B0.out hb)
    have X1_n := Aside0.mk (Kd.R_below X1.out hb)
    clear HB B0 X1
    have HB := HB_n
    have B0 := B0_n
    have X1 := X1_n
    clear HB_n B0_n X1_n
    have HS_n := Aside0.mk (And.intro HS.out (show w2.heap.size ≤ w3.heap.size from (hb).size))
    clear HS
    have HS := HS_n
    clear HS_n
    have SW := Aside0.mk (Kd.S_lower (Kd.S_mono (Kd.S_bound hSW) (fun k hk => And.intro hk.2.1 hk.2.2.1)) (show w.heap.size ≤ w2.heap.size by have := HS.out; omega))
    obtain ⟨ASW, cSW, eSW, hcSW, _⟩ := Kd.S_reads SW.out
    subst eSW
    have HCSW := Aside0.mk hcSW
    clear hSW hcSW hb
    clear X1 HCX1
    have cB0_0 : _ = some (Value.int .i64 a0_0) := (blk_cell B0.out 0).trans rfl
    have cB0_1 : _ = some (Value.slice A0_1 l0_1.length c0_1) := (blk_cell B0.out 1).trans rfl
    go_wp2_with fail
    refine (HTO.out _ HB.out).mono ?_
    rintro e w4 ⟨vRX, rfl, hRX, hb⟩
    clear cB0_0 cB0_1
    have HB_n := Aside0.mk (below_step HB.out hb)
    have B0_n := Aside0.mk (blk_below B0.out hb)
    have SW_n := Aside0.mk (Kd.S_below SW.out hb)
    clear HB B0 SW
    have HB := HB_n
    have B0 := B0_n
    have SW := SW_n
    clear HB_n B0_n SW_n
    have HS_n := Aside0.mk (And.intro HS.out (show w3.heap.size ≤ w4.heap.size from (hb).size))
    clear HS
    have HS := HS_n
    clear HS_n
    have RX := Aside0.mk (Kd.R_lower (Kd.R_mono (Kd.R_bound hRX) (fun k hk => And.intro hk.2.1 hk.2.2.1)) (show w.heap.size ≤ w3.heap.size by have := HS.out; omega))
    obtain ⟨ARX, cRX, eRX, hcRX, _⟩ := Kd.R_reads RX.out
    subst eRX
    have HCRX := Aside0.mk hcRX
    clear hRX hcRX hb
    go_wp2_with fail
    have hb : Below w4.heap.size w4 (w4.alloc (.cells #[.int .i64 s1, .slice ARX s2.length cRX] 29)) := (Below.refl _ w4).alloc (Nat.le_refl _) _
    have B8 : Aside0 ((w4.alloc (.cells #[.int .i64 s1, .slice ARX s2.length cRX] 29)).heap[w4.heap.size]? = some (.cells #[.int .i64 s1, .slice ARX s2.length cRX] 29 (0, 0))) := ⟨heap_alloc_new w4 _⟩
    obtain ⟨w5, hw⟩ : ∃ W, W = (w4.alloc (.cells #[.int .i64 s1, .slice ARX s2.length cRX] 29)) := ⟨_, rfl⟩
    rw [← hw] at hb B8 ⊢
    clear hw
    have HB_n := Aside0.mk (below_step HB.out hb)
    have B0_n := Aside0.mk (blk_below B0.out hb)
    have SW_n := Aside0.mk (Kd.S_below SW.out hb)
    have RX_n := Aside0.mk (Kd.R_below RX.out hb)
    clear HB B0 SW RX
    have HB := HB_n
    have B0 := B0_n
    have SW := SW_n
    have RX := RX_n
    clear HB_n B0_n SW_n RX_n
    have HS_n := Aside0.mk (And.intro HS.out (show w4.heap.size ≤ w5.heap.size from (hb).size))
    clear HS
    have HS := HS_n
    clear HS_n
    clear hb
    have HS_n := Aside0.mk (And.intro HS.out (blk_lt B8.out))
    clear HS
    have HS := HS_n
    clear HS_n
    refine (impl_MissedSwaps.calls s1 ARX cRX s2 a1 g1 g2 w5 (Kd.R_reads' RX.out).2.2 HCRX.out HIM.out).mono ?_
    rintro e w6 ⟨vSG, rfl, hSG, hb⟩
    have HB_n := Aside0.mk (below_step HB.out hb)
    have B0_n := Aside0.mk (blk_below B0.out hb)
    have SW_n := Aside0.mk (Kd.S_below SW.out hb)
    have RX_n := Aside0.mk (Kd.R_below RX.out hb)
    have B8_n := Aside0.mk (blk_below B8.out hb)
    clear HB B0 SW RX B8
    have HB := HB_n
    have B0 := B0_n
    have SW := SW_n
    have RX := RX_n
    have B8 := B8_n
    clear HB_n B0_n SW_n RX_n B8_n
    have HS_n := Aside0.mk (And.intro HS.out (show w5.heap.size ≤ w6.heap.size from (hb).size))
    clear HS
    have HS := HS_n
    clear HS_n
    have SG := Aside0.mk (Kd.S_lower (Kd.S_mono (Kd.S_bound hSG) (fun k hk => And.intro hk.2.1 hk.2.2.1)) (show w.heap.size ≤ w5.heap.size by have := HS.out; omega))
    obtain ⟨ASG, cSG, eSG, hcSG, _⟩ := Kd.S_reads SG.out
    subst eSG
    have HCSG := Aside0.mk hcSG
    clear hSG hcSG hb
    go_wp2_with fail
    refine (laws_eqIntSS.calls k _ _ g1 _ _ x1 true w6 (Kd.S_reads' SG.out).2.2 HCSG.out (Kd.S_reads' SW.out).2.2 HCSW.out HEQ.out).mono ?_
    rintro e wq ⟨rfl, ⟨nd, rfl⟩⟩
    have hb := pw_below_drewN (Below.refl w6.heap.size w6) nd
    obtain ⟨w7, hw⟩ : ∃ W, W = w6.drewN nd := ⟨_, rfl⟩
    rw [← hw] at hb ⊢
    clear hw
    have HB_n := Aside0.mk (below_step HB.out hb)
    have B0_n := Aside0.mk (blk_below B0.out hb)
    have SW_n := Aside0.mk (Kd.S_below SW.out hb)
    have RX_n := Aside0.mk (Kd.R_below RX.out hb)
    have B8_n := Aside0.mk (blk_below B8.out hb)
    have SG_n := Aside0.mk (Kd.S_below SG.out hb)
    clear HB B0 SW RX B8 SG
    have HB := HB_n
    have B0 := B0_n
    have SW := SW_n
    have RX := RX_n
    have B8 := B8_n
    have SG := SG_n
    clear HB_n B0_n SW_n RX_n B8_n SG_n
    have HS_n := Aside0.mk (And.intro HS.out (show w6.heap.size ≤ w7.heap.size from (hb).size))
    clear HS
    have HS := HS_n
    clear HS_n
    clear hb
    have hd : w7.cell? ⟨w4.heap.size, 0, none⟩ = some (Value.int .i64 s1) ∧ w7.cell? ⟨w4.heap.size, 1, none⟩ = some (Value.slice ARX s2.length cRX) ∧ w7.cell? ⟨w.heap.size, 0, none⟩ = some (Value.int .i64 a0_0) ∧ w7.cell? ⟨w.heap.size, 1, none⟩ = some (Value.slice A0_1 l0_1.length c0_1) ∧ Below w7.heap.size w7 w7 := ⟨(blk_cell B8.out 0).trans rfl, (blk_cell B8.out 1).trans rfl, (blk_cell B0.out 0).trans rfl, (blk_cell B0.out 1).trans rfl, Below.refl _ _⟩
    have HCR := Aside0.mk (Kd.R_reads' RX.out).2.2
    go_wp2
    go_region_held3 (fun w' => w'.cell? ⟨w4.heap.size, 0, none⟩ = some (Value.int .i64 s1) ∧ w'.cell? ⟨w4.heap.size, 1, none⟩ = some (Value.slice ARX s2.length cRX) ∧ w'.cell? ⟨w.heap.size, 0, none⟩ = some (Value.int .i64 a0_0) ∧ w'.cell? ⟨w.heap.size, 1, none⟩ = some (Value.slice A0_1 l0_1.length c0_1) ∧ Below w7.heap.size w7 w')
      (first | exact hd | exact held4 (below_drew1 (Below.refl _ _)) hd | exact held4 hb (by assumption) | (go_split_ands; exact held4 hb ⟨by assumption, by assumption, by assumption, by assumption, by assumption⟩) | (go_split_ands; exact held4 (below_drew1 (Below.refl _ _)) ⟨by assumption, by assumption, by assumption, by assumption, by assumption⟩) | go_keep)
      (first
        | (go_at_call 6; go_split_ands; (with_reducible refine (HTO.out _ ?sb).mono ?_); (case sb => exact below_step HB.out (by assumption)); rintro e w' ⟨v3, rfl, hR3, hb⟩; obtain ⟨A3, c3, e3, hc3, hC3⟩ := Kd.R_reads hR3; subst e3; have HC3 := Aside0.mk hC3; have HL3 := Aside0.mk hc3; clear hR3 hC3 hc3)
        | (go_at_call 9; go_split_ands; (with_reducible refine (laws_eqScheme.calls k s1 _ _ s2 s1 _ _ s2 true _ ?sa HCRX.out ?sb ?sc HES.out).mono ?_); (case sa => exact Kd.C_below HCR.out (by assumption)); (case sb => first | exact HC3.out | exact Kd.C_below HC3.out (by assumption)); (case sc => exact HL3.out); rintro e w' ⟨rfl, hb⟩))
    have hH : w'.cell? ⟨w4.heap.size, 0, none⟩ = some (Value.int .i64 s1) ∧ w'.cell? ⟨w4.heap.size, 1, none⟩ = some (Value.slice ARX s2.length cRX) ∧ w'.cell? ⟨w.heap.size, 0, none⟩ = some (Value.int .i64 a0_0) ∧ w'.cell? ⟨w.heap.size, 1, none⟩ = some (Value.slice A0_1 l0_1.length c0_1) ∧ Below w7.heap.size w7 w' := by assumption
    have hb8 := hH.2.2.2.2
    obtain ⟨w8, hw⟩ : ∃ W, W = w' := ⟨_, rfl⟩
    rw [← hw] at hb8 ⊢
    clear hw hH
    try clear hd
    try clear hb
    try clear HCR
    have HB_n := Aside0.mk (below_step HB.out hb8)
    have B0_n := Aside0.mk (blk_below B0.out hb8)
    have SW_n := Aside0.mk (Kd.S_below SW.out hb8)
    have RX_n := Aside0.mk (Kd.R_below RX.out hb8)
    have B8_n := Aside0.mk (blk_below B8.out hb8)
    have SG_n := Aside0.mk (Kd.S_below SG.out hb8)
    clear HB B0 SW RX B8 SG
    have HB := HB_n
    have B0 := B0_n
    have SW := SW_n
    have RX := RX_n
    have B8 := B8_n
    have SG := SG_n
    clear HB_n B0_n SW_n RX_n B8_n SG_n
    have HS_n := Aside0.mk (And.intro HS.out (show w7.heap.size ≤ w8.heap.size from (hb8).size))
    clear HS
    have HS := HS_n
    clear HS_n
    clear hb8
    have cB8_0 : _ = some (Value.int .i64 s1) := (blk_cell B8.out 0).trans rfl
    have cB8_1 : _ = some (Value.slice ARX s2.length cRX) := (blk_cell B8.out 1).trans rfl
    go_wp2_with fail
    refine (laws_markScheme.calls k s1 _ _ s2 1 m1 m1l w w8 HB.out RX.out HMS.out).mono ?_
    rintro e w9 ⟨rfl, _, hb, hk⟩
    clear cB8_0 cB8_1 HB
    have HB := Aside0.mk hb
    have B0_n := Aside0.mk (blk_kept B0.out hk (fun h2 => by have := HS.out; omega))
    have SW_n := Aside0.mk (Kd.S_kept SW.out hk (fun k h1 h2 => by have := HS.out; omega))
    have B8_n := Aside0.mk (blk_kept B8.out hk (fun h2 => by have := HS.out; omega))
    have SG_n := Aside0.mk (Kd.S_kept SG.out hk (fun k h1 h2 => by have := HS.out; omega))
    clear B0 SW B8 SG
    have B0 := B0_n
    have SW := SW_n
    have B8 := B8_n
    have SG := SG_n
    clear B0_n SW_n B8_n SG_n
    clear RX B8
    have HS_n := Aside0.mk (And.intro HS.out (show w8.heap.size ≤ w9.heap.size from hk.1))
    clear HS hb hk
    have HS := HS_n
    clear HS_n
    go_wp2_with fail
    refine (laws_eqIntSS.calls k _ _ g1 _ _ x1 true w9 (Kd.S_reads' SG.out).2.2 HCSG.out (Kd.S_reads' SW.out).2.2 HCSW.out HEQ.out).mono ?_
    rintro e wq ⟨rfl, ⟨nd, rfl⟩⟩
    have hb := pw_below_drewN (Below.refl w9.heap.size w9) nd
    obtain ⟨w10, hw⟩ : ∃ W, W = w9.drewN nd := ⟨_, rfl⟩
    rw [← hw] at hb ⊢
    clear hw
    have HB_n := Aside0.mk (below_step HB.out hb)
    have B0_n := Aside0.mk (blk_below B0.out hb)
    have SW_n := Aside0.mk (Kd.S_below SW.out hb)
    have SG_n := Aside0.mk (Kd.S_below SG.out hb)
    clear HB B0 SW SG
    have HB := HB_n
    have B0 := B0_n
    have SW := SW_n
    have SG := SG_n
    clear HB_n B0_n SW_n SG_n
    have HS_n := Aside0.mk (And.intro HS.out (show w9.heap.size ≤ w10.heap.size from (hb).size))
    clear HS
    have HS := HS_n
    clear HS_n
    clear hb
    go_wp2_with fail
    refine (laws_markIntSS.calls k _ _ g1 1 q m2l w w10 HB.out SG.out HMM.out).mono ?_
    rintro e w11 ⟨rfl, hSG, hb, hk⟩
    clear HB
    have HB := Aside0.mk hb
    have B0_n := Aside0.mk (blk_kept B0.out hk (fun h2 => by have := HS.out; omega))
    have SW_n := Aside0.mk (Kd.S_kept SW.out hk (fun k h1 h2 => by have := HS.out; omega))
    clear B0 SW
    have B0 := B0_n
    have SW := SW_n
    clear B0_n SW_n
    clear SG
    have SG := Aside0.mk (show Kd.S (Kd.slice 3 (Kd.int .i64)) 22 w11 w.heap.size (fun k => (w5.heap.size ≤ k ∧ k < w6.heap.size) ∨ w10.heap.size ≤ k) (.slice ASG g1.length cSG) m2l from hSG)
    have hlen := (Kd.S_reads' SG.out).1
    have HLN := Aside0.mk hlen
    have HCM : Aside0 (m2l.length ≤ cSG) := ⟨by rw [← hlen]; exact HCSG.out⟩
    have HS_n := Aside0.mk (And.intro HS.out (show w10.heap.size ≤ w11.heap.size from hk.1))
    clear HS hb hk hSG hlen
    have HS := HS_n
    clear HS_n
    go_wp2_with fail
    refine ((by rw [HLN.out]; exact laws_heldIntSS.calls k _ _ m2l 1 q w11 ((Kd.S_reads' SG.out).2.2) HCM.out HQ.out : Calls Try.prog 12 #[.slice ASG g1.length cSG, .int .i64 1] w11 fun e w' => e = .returned (.int .i64 q) ∧ Drawn0 w11 w')).mono ?_
    rintro e wq ⟨rfl, ⟨nd, rfl⟩⟩
    have hb := pw_below_drewN (Below.refl w11.heap.size w11) nd
    obtain ⟨w12, hw⟩ : ∃ W, W = w11.drewN nd := ⟨_, rfl⟩
    rw [← hw] at hb ⊢
    clear hw
    have HB_n := Aside0.mk (below_step HB.out hb)
    have B0_n := Aside0.mk (blk_below B0.out hb)
    have SW_n := Aside0.mk (Kd.S_below SW.out hb)
    have SG_n := Aside0.mk (Kd.S_below SG.out hb)
    clear HB B0 SW SG
    have HB := HB_n
    have B0 := B0_n
    have SW := SW_n
    have SG := SG_n
    clear HB_n B0_n SW_n SG_n
    have HS_n := Aside0.mk (And.intro HS.out (show w11.heap.size ≤ w12.heap.size from (hb).size))
    clear HS
    have HS := HS_n
    clear HS_n
    clear hb
    have cB0_0 : _ = some (Value.int .i64 a0_0) := (blk_cell B0.out 0).trans rfl
    have cB0_1 : _ = some (Value.slice A0_1 l0_1.length c0_1) := (blk_cell B0.out 1).trans rfl
    go_wp2_with fail
    refine (HTO.out _ HB.out).mono ?_
    rintro e w13 ⟨vX4, rfl, hX4, hb⟩
    clear cB0_0 cB0_1
    have HB_n := Aside0.mk (below_step HB.out hb)
    have B0_n := Aside0.mk (blk_below B0.out hb)
    have SW_n := Aside0.mk (Kd.S_below SW.out hb)
    have SG_n := Aside0.mk (Kd.S_below SG.out hb)
    clear HB B0 SW SG
    have HB := HB_n
    have B0 := B0_n
    have SW := SW_n
    have SG := SG_n
    clear HB_n B0_n SW_n SG_n
    have HS_n := Aside0.mk (And.intro HS.out (show w12.heap.size ≤ w13.heap.size from (hb).size))
    clear HS
    have HS := HS_n
    clear HS_n
    have X4 := Aside0.mk (Kd.R_lower (Kd.R_mono (Kd.R_bound hX4) (fun k hk => And.intro hk.2.1 hk.2.2.1)) (show w.heap.size ≤ w12.heap.size by have := HS.out; omega))
    obtain ⟨AX4, cX4, eX4, hcX4, _⟩ := Kd.R_reads X4.out
    subst eX4
    have HCX4 := Aside0.mk hcX4
    clear hX4 hcX4 hb
    go_wp2_with fail
    refine (impl_MissedSwaps.calls s1 AX4 cX4 s2 a1 g1 g2 w13 (Kd.R_reads' X4.out).2.2 HCX4.out HIM.out).mono ?_
    rintro e w14 ⟨vSH, rfl, hSH, hb⟩
    have HB_n := Aside0.mk (below_step HB.out hb)
    have B0_n := Aside0.mk (blk_below B0.out hb)
    have SW_n := Aside0.mk (Kd.S_below SW.out hb)
    have SG_n := Aside0.mk (Kd.S_below SG.out hb)
    have X4_n := Aside0.mk (Kd.R_below X4.out hb)
    clear HB B0 SW SG X4
    have HB := HB_n
    have B0 := B0_n
    have SW := SW_n
    have SG := SG_n
    have X4 := X4_n
    clear HB_n B0_n SW_n SG_n X4_n
    have HS_n := Aside0.mk (And.intro HS.out (show w13.heap.size ≤ w14.heap.size from (hb).size))
    clear HS
    have HS := HS_n
    clear HS_n
    have SH := Aside0.mk (Kd.S_lower (Kd.S_mono (Kd.S_bound hSH) (fun k hk => And.intro hk.2.1 hk.2.2.1)) (show w.heap.size ≤ w13.heap.size by have := HS.out; omega))
    obtain ⟨ASH, cSH, eSH, hcSH, _⟩ := Kd.S_reads SH.out
    subst eSH
    have HCSH := Aside0.mk hcSH
    clear hSH hcSH hb
    clear X4 HCX4
    go_wp2_with fail
    refine (laws_eqIntSS.calls k _ _ g1 _ _ x1 true w14 (Kd.S_reads' SH.out).2.2 HCSH.out (Kd.S_reads' SW.out).2.2 HCSW.out HEQ.out).mono ?_
    rintro e wq ⟨rfl, ⟨nd, rfl⟩⟩
    have hb := pw_below_drewN (Below.refl w14.heap.size w14) nd
    obtain ⟨w15, hw⟩ : ∃ W, W = w14.drewN nd := ⟨_, rfl⟩
    rw [← hw] at hb ⊢
    clear hw
    have HB_n := Aside0.mk (below_step HB.out hb)
    have B0_n := Aside0.mk (blk_below B0.out hb)
    have SW_n := Aside0.mk (Kd.S_below SW.out hb)
    have SG_n := Aside0.mk (Kd.S_below SG.out hb)
    have SH_n := Aside0.mk (Kd.S_below SH.out hb)
    clear HB B0 SW SG SH
    have HB := HB_n
    have B0 := B0_n
    have SW := SW_n
    have SG := SG_n
    have SH := SH_n
    clear HB_n B0_n SW_n SG_n SH_n
    have HS_n := Aside0.mk (And.intro HS.out (show w14.heap.size ≤ w15.heap.size from (hb).size))
    clear HS
    have HS := HS_n
    clear HS_n
    clear hb
    go_wp2_with fail
    refine ((by rw [HLN.out]; exact laws_heldIntSS.calls k _ _ m2l 1 q w15 ((Kd.S_reads' SG.out).2.2) HCM.out HQ.out : Calls Try.prog 12 #[.slice ASG g1.length cSG, .int .i64 1] w15 fun e w' => e = .returned (.int .i64 q) ∧ Drawn0 w15 w')).mono ?_
    rintro e wq ⟨rfl, ⟨nd, rfl⟩⟩
    have hb := pw_below_drewN (Below.refl w15.heap.size w15) nd
    obtain ⟨w16, hw⟩ : ∃ W, W = w15.drewN nd := ⟨_, rfl⟩
    rw [← hw] at hb ⊢
    clear hw
    have HB_n := Aside0.mk (below_step HB.out hb)
    have B0_n := Aside0.mk (blk_below B0.out hb)
    have SW_n := Aside0.mk (Kd.S_below SW.out hb)
    have SG_n := Aside0.mk (Kd.S_below SG.out hb)
    have SH_n := Aside0.mk (Kd.S_below SH.out hb)
    clear HB B0 SW SG SH
    have HB := HB_n
    have B0 := B0_n
    have SW := SW_n
    have SG := SG_n
    have SH := SH_n
    clear HB_n B0_n SW_n SG_n SH_n
    have HS_n := Aside0.mk (And.intro HS.out (show w15.heap.size ≤ w16.heap.size from (hb).size))
    clear HS
    have HS := HS_n
    clear HS_n
    clear hb
    go_wp2
    go_ret
    exact ⟨rfl, HB.out⟩

end Go.Proofs.Ytepkhpnoibillaa.PA
