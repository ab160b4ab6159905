-- printed by xprint.py: the kit's print.py with given contracts
import Derived.Test.YtepkhpnoibillaaDoorPAx0
import Derived.Test.YtepkhpnoibillaaDoorPAx2
import Derived.Test.YtepkhpnoibillaaDoorPAx3
namespace Go.Proofs.YtepkhpnoibillaaDoor.PA
open Go.RowKit Go.Proofs.YtepkhpnoibillaaDoorW.PrintWords Go.Proofs.YtepkhpnoibillaaDoorW.PrintLast Go.Proofs.YtepkhpnoibillaaDoorW.PrintMore
attribute [local go_sem] max2_int min2_int max_two min_two max_three min_three max_four min_four   -- for this text's walks alone
set_option linter.unusedVariables false
set_option linter.unusedSimpArgs false


/-! ### stringslite_Index: function 64 -/
/-- stringslite.Index at one byte -/
def stringslite_Index.f (a0 a1 : ByteArray) : Option Int := if a1.size = 1 then some (Lib.indexByte a0.data.toList (a1.data.toList.headD 0)) else none
theorem stringslite_Index.calls (a0 a1 : ByteArray) (r : Int) (w : World) (h : stringslite_Index.f a0 a1 = some r) :
    Calls Tryd.prog 64 #[.string a0, .string a1] w fun e w' => e = .returned (.int .i64 r) ∧ ∃ n, w' = w.drewN n := by
  unfold stringslite_Index.f at h
  split at h
  · rename_i hc
    obtain ⟨c, rfl⟩ := Lib.one_byte a1 hc
    have e := Option.some.inj h
    subst e
    refine (Any.stringslite_Index_one Tryd.lays219 a0 c w).mono ?_
    rintro e w' ⟨rfl, rfl⟩
    exact ⟨rfl, 0, rfl⟩
  · exact absurd h (by simp)

/-! ### spec_ckPut: function 47 -/
def spec_ckPut.l0 : Nat → List ByteArray → ByteArray → Int → Option (List ByteArray)
  | 0, _, _, _ => none
  | k + 1, x0, x1, x5 => if x5 < (x0.length : Int) then (if 0 ≤ x5 then (if (Op.bytesLess ((rdOf ByteArray.empty x0 x5).toList) x1.toList) = true then (spec_ckPut.l0 k x0 x1 (wrap64 (x5 + 1))) else (if (rdOf ByteArray.empty x0 x5).toList = x1.toList then (some x0) else ((some (([] : List ByteArray) : List ByteArray)).bind fun y158 => (if x5 ≤ (x0.length : Int) then ((some (x0.take (x5 : Int).toNat : List ByteArray)).bind fun y161 => (if y158.length + y161.length < 8796093022208 then ((some (y158 ++ y161 : List ByteArray)).bind fun y165 => (if y165.length < 8796093022208 then ((some (y165 ++ [x1] : List ByteArray)).bind fun y168 => ((some (x0.drop (x5 : Int).toNat : List ByteArray)).bind fun y171 => (if y168.length + y171.length < 8796093022208 then (some (y168 ++ y171)) else (none)))) else (none))) else (none))) else (none))))) else (none)) else ((some (([] : List ByteArray) : List ByteArray)).bind fun y178 => (if 0 ≤ x5 then (if x5 ≤ (x0.length : Int) then ((some (x0.take (x5 : Int).toNat : List ByteArray)).bind fun y181 => (if y178.length + y181.length < 8796093022208 then ((some (y178 ++ y181 : List ByteArray)).bind fun y185 => (if y185.length < 8796093022208 then ((some (y185 ++ [x1] : List ByteArray)).bind fun y188 => ((some (x0.drop (x5 : Int).toNat : List ByteArray)).bind fun y191 => (if y188.length + y191.length < 8796093022208 then (some (y188 ++ y191)) else (none)))) else (none))) else (none))) else (none)) else (none)))
def spec_ckPut.f (k : Nat) (l0 : List ByteArray) (a1 : ByteArray) : Option (List ByteArray) := spec_ckPut.l0 k l0 a1 0
theorem spec_ckPut.mono_l : ∀ k, (∀ y0 y1 y2, LeO (spec_ckPut.l0 k y0 y1 y2) (spec_ckPut.l0 (k + 1) y0 y1 y2))
  | 0 => fun _ _ _ r h => by simp [spec_ckPut.l0] at h
  | k + 1 => by
    have ih0 := spec_ckPut.mono_l k
    · intro y0 y1 y2
      unfold spec_ckPut.l0
      repeat' first
      | (with_reducible exact ih0 _ _ _)
      | (with_reducible exact LeO.refl _)
      | (with_reducible exact LeO.none _)
      | (with_reducible refine LeO.ite ?_ ?_)
      | (with_reducible refine LeO.bind ?_ (fun _ => ?_))
      | exact ih0 _ _ _
      | exact LeO.none _
      | refine LeO.ite ?_ ?_
      | refine LeO.bind ?_ (fun _ => ?_)
theorem spec_ckPut.mono : ∀ a0 a1 k, LeO (spec_ckPut.f k a0 a1) (spec_ckPut.f (k + 1) a0 a1) := by
  intro a0 a1 k
  have ih0 := spec_ckPut.mono_l k
  unfold spec_ckPut.f
  repeat' first
      | (with_reducible exact ih0 _ _ _)
      | (with_reducible exact LeO.refl _)
      | (with_reducible exact LeO.none _)
      | (with_reducible refine LeO.ite ?_ ?_)
      | (with_reducible refine LeO.bind ?_ (fun _ => ?_))
      | exact ih0 _ _ _
      | exact LeO.none _
      | refine LeO.ite ?_ ?_
      | refine LeO.bind ?_ (fun _ => ?_)
set_option maxHeartbeats 8000000 in
set_option maxRecDepth 100000 in
theorem spec_ckPut.calls (k : Nat) (P0_ : Nat → Prop) (u9000_ : Value) (l0 : List ByteArray) (a1 : ByteArray) (r : List ByteArray) (w0 w : World) (hB : Below w0.heap.size w0 w) (ho0 : Kd.R Kd.string 9 w w0.heap.size P0_ u9000_ l0) (h : spec_ckPut.f k l0 a1 = some r) :
    Calls Tryd.prog 47 #[u9000_, .string a1] w fun e w' => ∃ v0_ : Value, e = .returned (v0_) ∧ Kd.R Kd.string 9 w' w0.heap.size (fun k_ => (P0_ k_ ∨ w.heap.size ≤ k_)) v0_ r ∧ Below w0.heap.size w0 w' ∧ Kept w w' (fun k_ => P0_ k_) := by
  have HO0 := Aside0.mk (show Kd.R Kd.string 9 w w0.heap.size (fun k_ => (P0_ k_ ∨ w.heap.size ≤ k_)) u9000_ l0 from Kd.R_mono ho0 (fun k_ hk => (.inl hk)))
  have HK := Aside0.mk (Kept.refl w (fun k_ => P0_ k_))
  have HW0 := Aside0.mk hB.size
  have HB := Aside0.mk hB
  clear hB
  have H : (spec_ckPut.l0 k l0 a1 0) = some r := h
  clear h
  have H' := Aside0.mk H
  clear H
  go_enter Tryd.func47, Tryd.ntmps47
  go_wp2
  go_loopg [5] k (fun kq v5 w' => ∃ (x5_1 : Int), v5 = .int .i64 x5_1 ∧ Aside0 (spec_ckPut.l0 kq l0 a1 x5_1 = some r) ∧ Aside0 (kq ≤ k) ∧ Aside0 (Kd.R Kd.string 9 w' w0.heap.size (fun k_ => (P0_ k_ ∨ w.heap.size ≤ k_)) u9000_ l0) ∧ Aside0 (Kept w w' (fun k_ => P0_ k_)) ∧ Aside0 (Below w0.heap.size w0 w'))
  case atStart => exact ⟨(0), (by first | rfl | (simp; done) | (simp [*]; done) | (simp [isEmpty_bne]; done) | (simp [i64_w]; done) | (simp only [i64_w]; done)), H', ⟨Nat.le_refl _⟩, ⟨by (with_reducible repeat (first | apply Kd.R_alloc | apply Kd.R_drewN | apply Kd.R_drew)); exact HO0.out⟩, ⟨by repeat (first | (with_reducible first | exact HK.out | apply Kept.alloc | apply Kept.drewN | apply Kept.drew) | exact HK.out)⟩, ⟨by repeat (first | (with_reducible first | exact HB.out | apply below_alloc | apply pw_below_drewN | apply below_drew1) | exact HB.out)⟩⟩
  case round =>
    clear H'
    try clear p2
    obtain ⟨x5_1, rfl, HA, HK1, HO_0, HK, HB⟩ := hrel
    cases gk with
    | zero => exact absurd HA.out (by simp [spec_ckPut.l0])
    | succ k1 =>
      have H := HA.out
      clear HA
      simp only [spec_ckPut.l0] at H
      by_cases c3 : x5_1 < (l0.length : Int)
      · rw [if_pos c3] at H
        have c3b0 : decide (x5_1 < (l0.length : Int)) = true := decide_eq_true c3
        clear c3
        by_cases c4 : 0 ≤ x5_1
        · rw [if_pos c4] at H
          have c4b0 : decide (0 ≤ x5_1) = true := decide_eq_true c4
          clear c4
          by_cases c5 : (Op.bytesLess ((rdOf ByteArray.empty l0 x5_1).toList) a1.toList) = true
          · rw [if_pos c5] at H
            have c5b0 : (Op.bytesLess ((rdOf ByteArray.empty l0 x5_1).toList) a1.toList) = true := c5
            clear c5
            have H' := Aside0.mk H
            clear H
            obtain ⟨Ao6, co6, eo6⟩ := Kd.R_slice HO_0.out
            subst eo6
            have p156 : 0 ≤ (x5_1 : Int) := of_decide_eq_true (by first | (with_reducible assumption) | assumption)
            have q156 : x5_1 < (l0.length : Int) := of_decide_eq_true (by first | (with_reducible assumption) | assumption)
            obtain ⟨ad156, e156, hx156_0⟩ := Kd.at_string (Kd.R_reads' HO_0.out).2.2 x5_1 p156 q156
            cases e156
            replace p156 := eq_true p156
            replace q156 := eq_true q156
            go_wp2
            go_roundg k1
            case measure => have := HK1.out; omega
            case rel => exact ⟨(wrap64 (x5_1 + 1)), (by first | rfl | (simp; done) | (simp [*]; done) | (simp [isEmpty_bne]; done) | (simp [i64_w]; done) | (simp only [i64_w]; done)), H', ⟨by have := HK1.out; omega⟩, ⟨by (with_reducible repeat (first | apply Kd.R_alloc | apply Kd.R_drewN | apply Kd.R_drew)); exact HO_0.out⟩, ⟨by repeat (first | (with_reducible first | exact HK.out | apply Kept.alloc | apply Kept.drewN | apply Kept.drew) | exact HK.out)⟩, ⟨by repeat (first | (with_reducible first | exact HB.out | apply below_alloc | apply pw_below_drewN | apply below_drew1) | exact HB.out)⟩⟩
          · rw [if_neg c5] at H
            have c5b0 : (Op.bytesLess ((rdOf ByteArray.empty l0 x5_1).toList) a1.toList) = false := by simpa using c5
            clear c5
            by_cases c7 : (rdOf ByteArray.empty l0 x5_1).toList = a1.toList
            · rw [if_pos c7] at H
              have c7b0 : ((rdOf ByteArray.empty l0 x5_1).toList == a1.toList) = true := beq_iff_eq.mpr c7
              have c7b1 : ((rdOf ByteArray.empty l0 x5_1).toList != a1.toList) = false := bne_eq_false_iff_eq.mpr c7
              clear c7
              obtain rfl := Option.some.inj H
              obtain ⟨Ao8, co8, eo8⟩ := Kd.R_slice HO_0.out
              subst eo8
              have p156 : 0 ≤ (x5_1 : Int) := of_decide_eq_true (by first | (with_reducible assumption) | assumption)
              have q156 : x5_1 < (l0.length : Int) := of_decide_eq_true (by first | (with_reducible assumption) | assumption)
              obtain ⟨ad156, e156, hx156_0⟩ := Kd.at_string (Kd.R_reads' HO_0.out).2.2 x5_1 p156 q156
              cases e156
              replace p156 := eq_true p156
              replace q156 := eq_true q156
              have p157 : 0 ≤ (x5_1 : Int) := of_decide_eq_true (by first | (with_reducible assumption) | assumption)
              have q157 : x5_1 < (l0.length : Int) := of_decide_eq_true (by first | (with_reducible assumption) | assumption)
              obtain ⟨ad157, e157, hx157_0⟩ := Kd.at_string (Kd.R_reads' HO_0.out).2.2 x5_1 p157 q157
              obtain rfl : ad156 = ad157 := (by injection e157)
              replace p157 := eq_true p157
              replace q157 := eq_true q157
              go_wp2
              go_ret
              exact ⟨_, by first | rfl | (simp [errW_none, errW_some] <;> rfl) | (simp [*, errW_none, errW_some] <;> rfl), by (with_reducible repeat (first | apply Kd.R_alloc | apply Kd.R_drewN | apply Kd.R_drew)); exact HO_0.out, by repeat (first | (with_reducible first | exact HB.out | apply below_alloc | apply pw_below_drewN | apply below_drew1) | exact HB.out), by repeat (first | (with_reducible first | exact HK.out | apply Kept.alloc | apply Kept.drewN | apply Kept.drew) | exact HK.out)⟩
            · rw [if_neg c7] at H
              have c7b0 : ((rdOf ByteArray.empty l0 x5_1).toList == a1.toList) = false := beq_eq_false_iff_ne.mpr c7
              have c7b1 : ((rdOf ByteArray.empty l0 x5_1).toList != a1.toList) = true := bne_iff_ne.mpr c7
              obtain ⟨y158, hy158⟩ : ∃ y_ : List ByteArray, y_ = (([] : List ByteArray)) := ⟨_, rfl⟩
              replace H : (if x5_1 ≤ (l0.length : Int) then ((some (l0.take (x5_1 : Int).toNat : List ByteArray)).bind fun y161 => (if y158.length + y161.length < 8796093022208 then ((some (y158 ++ y161 : List ByteArray)).bind fun y165 => (if y165.length < 8796093022208 then ((some (y165 ++ [a1] : List ByteArray)).bind fun y168 => ((some (l0.drop (x5_1 : Int).toNat : List ByteArray)).bind fun y171 => (if y168.length + y171.length < 8796093022208 then (some (y168 ++ y171)) else (none)))) else (none))) else (none))) else (none)) = some r := by first | (rw [hy158]; with_reducible exact H) | (have H2_ := (Option.bind_some _ _).symm.trans H; rw [hy158]; with_reducible exact H2_) | (have H2_ := (Option.bind_some _ _).symm.trans H; with_reducible exact H2_) | with_reducible exact H | (rw [hy158]; exact H) | exact H
              have Ny158 := Aside0.mk hy158
              clear hy158
              have c9b0 := eq_true (of_decide_eq_true (by first | (with_reducible assumption) | assumption) : 0 ≤ x5_1)
              by_cases c10 : x5_1 ≤ (l0.length : Int)
              · rw [if_pos c10] at H
                have c10b0 := eq_true c10
                have c10b1 : decide (x5_1 ≤ (l0.length : Int)) = true := decide_eq_true c10
                clear c10
                obtain ⟨y161, hy161⟩ : ∃ y_ : List ByteArray, y_ = (l0.take (x5_1 : Int).toNat) := ⟨_, rfl⟩
                replace H : (if y158.length + y161.length < 8796093022208 then ((some (y158 ++ y161 : List ByteArray)).bind fun y165 => (if y165.length < 8796093022208 then ((some (y165 ++ [a1] : List ByteArray)).bind fun y168 => ((some (l0.drop (x5_1 : Int).toNat : List ByteArray)).bind fun y171 => (if y168.length + y171.length < 8796093022208 then (some (y168 ++ y171)) else (none)))) else (none))) else (none)) = some r := by first | (rw [hy161]; with_reducible exact H) | (have H2_ := (Option.bind_some _ _).symm.trans H; rw [hy161]; with_reducible exact H2_) | (have H2_ := (Option.bind_some _ _).symm.trans H; with_reducible exact H2_) | with_reducible exact H | (rw [hy161]; exact H) | exact H
                have Ny161 := Aside0.mk hy161
                clear hy161
                by_cases c11 : y158.length + y161.length < 8796093022208
                · rw [if_pos c11] at H
                  have LMc11 := Aside0.mk c11
                  clear c11
                  obtain ⟨y165, hy165⟩ : ∃ y_ : List ByteArray, y_ = (y158 ++ y161) := ⟨_, rfl⟩
                  replace H : (if y165.length < 8796093022208 then ((some (y165 ++ [a1] : List ByteArray)).bind fun y168 => ((some (l0.drop (x5_1 : Int).toNat : List ByteArray)).bind fun y171 => (if y168.length + y171.length < 8796093022208 then (some (y168 ++ y171)) else (none)))) else (none)) = some r := by first | (rw [hy165]; with_reducible exact H) | (have H2_ := (Option.bind_some _ _).symm.trans H; rw [hy165]; with_reducible exact H2_) | (have H2_ := (Option.bind_some _ _).symm.trans H; with_reducible exact H2_) | with_reducible exact H | (rw [hy165]; exact H) | exact H
                  have Ny165 := Aside0.mk hy165
                  clear hy165
                  by_cases c12 : y165.length < 8796093022208
                  · rw [if_pos c12] at H
                    have LMc12 := Aside0.mk c12
                    clear c12
                    obtain ⟨y168, hy168⟩ : ∃ y_ : List ByteArray, y_ = (y165 ++ [a1]) := ⟨_, rfl⟩
                    replace H : ((some (l0.drop (x5_1 : Int).toNat : List ByteArray)).bind fun y171 => (if y168.length + y171.length < 8796093022208 then (some (y168 ++ y171)) else (none))) = some r := by first | (rw [hy168]; with_reducible exact H) | (have H2_ := (Option.bind_some _ _).symm.trans H; rw [hy168]; with_reducible exact H2_) | (have H2_ := (Option.bind_some _ _).symm.trans H; with_reducible exact H2_) | with_reducible exact H | (rw [hy168]; exact H) | exact H
                    have Ny168 := Aside0.mk hy168
                    clear hy168
                    have c13b0 := eq_true (of_decide_eq_true (by first | (with_reducible assumption) | assumption) : 0 ≤ x5_1)
                    have c14b0 := eq_true (of_decide_eq_true (by first | (with_reducible assumption) | assumption) : x5_1 ≤ (l0.length : Int))
                    obtain ⟨y171, hy171⟩ : ∃ y_ : List ByteArray, y_ = (l0.drop (x5_1 : Int).toNat) := ⟨_, rfl⟩
                    replace H : (if y168.length + y171.length < 8796093022208 then (some (y168 ++ y171)) else (none)) = some r := by first | (rw [hy171]; with_reducible exact H) | (have H2_ := (Option.bind_some _ _).symm.trans H; rw [hy171]; with_reducible exact H2_) | (have H2_ := (Option.bind_some _ _).symm.trans H; with_reducible exact H2_) | with_reducible exact H | (rw [hy171]; exact H) | exact H
                    have Ny171 := Aside0.mk hy171
                    clear hy171
                    by_cases c15 : y168.length + y171.length < 8796093022208
                    · rw [if_pos c15] at H
                      have LMc15 := Aside0.mk c15
                      clear c15
                      obtain ⟨y175, hy175⟩ : ∃ y_ : List ByteArray, y_ = (y168 ++ y171) := ⟨_, rfl⟩
                      replace H : (some y175) = some r := by first | (rw [hy175]; with_reducible exact H) | (have H2_ := (Option.bind_some _ _).symm.trans H; rw [hy175]; with_reducible exact H2_) | (have H2_ := (Option.bind_some _ _).symm.trans H; with_reducible exact H2_) | with_reducible exact H | (rw [hy175]; exact H) | exact H
                      have Ny175 := Aside0.mk hy175
                      clear hy175
                      obtain rfl := Option.some.inj H
                      obtain ⟨Ao16, co16, eo16⟩ := Kd.R_slice HO_0.out
                      subst eo16
                      have p156 : 0 ≤ (x5_1 : Int) := of_decide_eq_true (by first | (with_reducible assumption) | assumption)
                      have q156 : x5_1 < (l0.length : Int) := of_decide_eq_true (by first | (with_reducible assumption) | assumption)
                      obtain ⟨ad156, e156, hx156_0⟩ := Kd.at_string (Kd.R_reads' HO_0.out).2.2 x5_1 p156 q156
                      cases e156
                      replace p156 := eq_true p156
                      replace q156 := eq_true q156
                      have p157 : 0 ≤ (x5_1 : Int) := of_decide_eq_true (by first | (with_reducible assumption) | assumption)
                      have q157 : x5_1 < (l0.length : Int) := of_decide_eq_true (by first | (with_reducible assumption) | assumption)
                      obtain ⟨ad157, e157, hx157_0⟩ := Kd.at_string (Kd.R_reads' HO_0.out).2.2 x5_1 p157 q157
                      obtain rfl : ad156 = ad157 := (by injection e157)
                      replace p157 := eq_true p157
                      replace q157 := eq_true q157
                      go_wp2_with (first | ((with_reducible refine gate_dst (N := 34) rfl ?_); refine Kd.R_lit Kd.string _ 9 ?hg (N := 34) ?hd (xs := ([] : List ByteArray)) (inner := []) (ok := fun _ => True) (okp := fun _ => True) ?hr ?hp (fun _ hk => hk) trivial (Below.refl _ _) (Nat.le_refl _) (by simp) ?_; (case hd => rfl); (case hg => rfl); (case hr => first | (go_simp; done) | (go_simp; rfl)); (case hp => exact (Reps.none _ _)); intro v159 w17 ho18 hb hg_ hnew_; clear hg_ hnew_; (first | rw [← Ny158.out] at ho18 | (simp only [Int.reduceToNat] at ho18; rw [← Ny158.out] at ho18)); have n0_ := Aside0.mk (Kd.R_elder' (by (with_reducible repeat (first | apply Kd.R_alloc | apply Kd.R_drewN | apply Kd.R_drew)); exact HO_0.out) (Kd.R_base ho18) hb); have n1_ := Aside0.mk (Kd.R_lower (Kd.R_new' (Kd.R_newM (M := fun k_ => (P0_ k_ ∨ w.heap.size ≤ k_)) ho18 (by first | exact HK.out.1 | exact (show Kept w _ (fun k_ => P0_ k_) from by repeat (first | (with_reducible first | exact HK.out | apply Kept.alloc | apply Kept.drewN | apply Kept.drew) | exact HK.out)).1) (fun k_ h_ => .inr h_)) (Kd.R_lt (by (with_reducible repeat (first | apply Kd.R_alloc | apply Kd.R_drewN | apply Kd.R_drew)); exact HO_0.out))) (below_size (by repeat (first | (with_reducible first | exact HB.out | apply below_alloc | apply pw_below_drewN | apply below_drew1) | exact HB.out)))); have n2_ := Aside0.mk (Kept.below (S := (fun k_ => P0_ k_)) (by repeat (first | (with_reducible first | exact HK.out | apply Kept.alloc | apply Kept.drewN | apply Kept.drew) | exact HK.out)) hb); have n3_ := Aside0.mk (below_step (by repeat (first | (with_reducible first | exact HB.out | apply below_alloc | apply pw_below_drewN | apply below_drew1) | exact HB.out)) hb); clear HO_0; clear HK; clear HB; have HO_0 := n0_; have HO160 := n1_; have HK := n2_; have HB := n3_; clear n0_ n1_ n2_ n3_; clear hb ho18; have q19 : (x5_1 : Int) ≤ ((l0.length : Int) : Int) := of_decide_eq_true (by first | (with_reducible assumption) | assumption); obtain ⟨i019, hi019, _, hsz19, _⟩ := info_parts info9; have hroom19 : l0.length ≤ co16 := (Kd.R_reads' HO_0.out).2.1; have hC19 : Kd.C Kd.string _ (some ad156) l0.length l0 := (Kd.R_reads' HO_0.out).2.2; have hcut19 := cut_to (P := Tryd.prog) 32 9 .i64 Tryd.underlying32 hi019 (some ad156) l0.length co16 x5_1 (of_decide_eq_true (by first | (with_reducible assumption) | assumption)) q19 hroom19; have hr19 := Kd.C_take (m := (x5_1 : Int).toNat) hC19 (by omega); have hy19 : y161.length = (x5_1 : Int).toNat := (by rw [Ny161.out, List.length_take]; omega); rw [← Ny161.out] at hr19; rw [← hy19] at hcut19; have HR164 := Aside0.mk hr19; have HC164 := Aside0.mk (show y161.length ≤ co16 from by omega); clear hr19 hC19 hroom19 hi019 hsz19; have KY19 := Aside0.mk hy19; clear hy19; have KL19 := Aside0.mk (show (x5_1 : Int).toNat ≤ l0.length from by omega); replace q19 := eq_true q19) | ((with_reducible refine gate_builtin (b := .append) (xs := #[.tmp 34, .tmp 37]) rfl ?_); at_builtin; refine Kd.R_append_rows Kd.string (w0 := w0) w0.heap.size rfl (.tmp 34) (.tmp 37) 32 9 (.string ⟨#[]⟩) 16 rfl Tryd.underlying32 info9 rfl (by decide) (by omega) v159 y158 y161 _ _ _ (fun k_ => (P0_ k_ ∨ w.heap.size ≤ k_) ∧ some k_ ≠ (.slice (some ad156) l0.length co16 : Value).ownBlock) (fun _ => False) rfl rfl ?aO ?aR (fun _ _ h => h) (fun _ h => h.elim) ?aF ?aB ?aS ?aL ?_; (case aR => repeat (first | exact (by repeat (first | (with_reducible exact HR164.out) | (with_reducible refine Kd.C_alloc ?_ _) | (with_reducible refine Kd.C_drewN ?_ _) | (with_reducible refine Kd.C_drew ?_) | exact HR164.out)) | (with_reducible refine Kd.C_alloc ?_ _) | (with_reducible refine Kd.C_drewN ?_ _) | (with_reducible refine Kd.C_drew ?_))); (case aB => exact (by repeat (first | (with_reducible first | exact HB.out | apply below_alloc | apply pw_below_drewN | apply below_drew1) | exact HB.out))); (case aF => exact (fun k_ hk => ⟨(.inr (Nat.le_trans (by first | exact HK.out.1 | exact (show Kept w _ (fun k_ => P0_ k_) from by repeat (first | (with_reducible first | exact HK.out | apply Kept.alloc | apply Kept.drewN | apply Kept.drew) | exact HK.out)).1) hk)), Kd.fresh' (Kd.R_lt (by (with_reducible repeat (first | apply Kd.R_alloc | apply Kd.R_drewN | apply Kd.R_drew)); exact HO_0.out)) k_ hk⟩)); (case aO => exact (by (with_reducible repeat (first | apply Kd.R_alloc | apply Kd.R_drewN | apply Kd.R_drew)); exact Kd.R_mono HO160.out (fun _ hk => ⟨hk.1.1, hk.2⟩))); (case aS => exact (below_size (by repeat (first | (with_reducible first | exact HB.out | apply below_alloc | apply pw_below_drewN | apply below_drew1) | exact HB.out)))); (case aL => have := LMc11.out; omega); intro v166 w20 ho hb hg hat; rw [← Ny165.out] at ho; have n0_ := Aside0.mk (Kd.R_after (ok := (fun k_ => (P0_ k_ ∨ w.heap.size ≤ k_))) (by (with_reducible repeat (first | apply Kd.R_alloc | apply Kd.R_drewN | apply Kd.R_drew)); exact HO_0.out) hg hat); have n1_ := Aside0.mk (hb); have n2_ := Aside0.mk (Kept.of_grown (S := (fun k_ => P0_ k_)) hg (by repeat (first | (with_reducible first | exact HK.out | apply Kept.alloc | apply Kept.drewN | apply Kept.drew) | exact HK.out)) (fun k_ e_ => (HO160.out.1 k_ e_).1.1)); have n3_ := Aside0.mk ((show Kd.C Kd.string w20 (some ad156) y161.length y161 from by rw [Ny161.out]; exact Kd.C_take (m := (x5_1 : Int).toNat) ((Kd.R_reads' (Kd.R_after (ok := (fun k_ => (P0_ k_ ∨ w.heap.size ≤ k_))) (by (with_reducible repeat (first | apply Kd.R_alloc | apply Kd.R_drewN | apply Kd.R_drew)); exact HO_0.out) hg hat)).2.2) KL19.out)); have n4_ := Aside0.mk (ho); clear HO_0; clear HB; clear HK; clear HR164; clear HO160; have HO_0 := n0_; have HB := n1_; have HK := n2_; have HR164 := n3_; have HO167 := n4_; clear n0_ n1_ n2_ n3_ n4_; clear ho hb hg hat) | ((with_reducible refine gate_builtin (b := .append) (xs := #[.tmp 38, .tmp 40]) rfl ?_); at_builtin; refine Kd.R_append Kd.string (w0 := w0) w0.heap.size rfl (.tmp 38) (.tmp 40) 32 9 (.string ⟨#[]⟩) 16 rfl Tryd.underlying32 info9 rfl (by decide) (by omega) v166 y165 a1 [.string a1] (fun k_ => (P0_ k_ ∨ w.heap.size ≤ k_) ∧ some k_ ≠ (.slice (some ad156) l0.length co16 : Value).ownBlock) (fun _ => False) rfl rfl ?aP (fun _ hk => hk.elim) ?aF ?aO ?aB ?aS ?aL ?_; (case aP => exact rfl); (case aB => exact (by repeat (first | (with_reducible first | exact HB.out | apply below_alloc | apply pw_below_drewN | apply below_drew1) | exact HB.out))); (case aF => exact (fun k_ hk => ⟨(.inr (Nat.le_trans (by first | exact HK.out.1 | exact (show Kept w _ (fun k_ => P0_ k_) from by repeat (first | (with_reducible first | exact HK.out | apply Kept.alloc | apply Kept.drewN | apply Kept.drew) | exact HK.out)).1) hk)), Kd.fresh' (Kd.R_lt (by (with_reducible repeat (first | apply Kd.R_alloc | apply Kd.R_drewN | apply Kd.R_drew)); exact HO_0.out)) k_ hk⟩)); (case aO => exact (by (with_reducible repeat (first | apply Kd.R_alloc | apply Kd.R_drewN | apply Kd.R_drew)); exact HO167.out)); (case aS => exact (below_size (by repeat (first | (with_reducible first | exact HB.out | apply below_alloc | apply pw_below_drewN | apply below_drew1) | exact HB.out)))); (case aL => have := LMc12.out; omega); intro v169 w21 ho hb hg hat; rw [← Ny168.out] at ho; have n0_ := Aside0.mk (Kd.R_after (ok := (fun k_ => (P0_ k_ ∨ w.heap.size ≤ k_))) (by (with_reducible repeat (first | apply Kd.R_alloc | apply Kd.R_drewN | apply Kd.R_drew)); exact HO_0.out) hg hat); have n1_ := Aside0.mk (hb); have n2_ := Aside0.mk (Kept.of_grown (S := (fun k_ => P0_ k_)) hg (by repeat (first | (with_reducible first | exact HK.out | apply Kept.alloc | apply Kept.drewN | apply Kept.drew) | exact HK.out)) (fun k_ e_ => (HO167.out.1 k_ e_).1)); have n3_ := Aside0.mk ((show Kd.C Kd.string w21 (some ad156) y161.length y161 from by rw [Ny161.out]; exact Kd.C_take (m := (x5_1 : Int).toNat) ((Kd.R_reads' (Kd.R_after (ok := (fun k_ => (P0_ k_ ∨ w.heap.size ≤ k_))) (by (with_reducible repeat (first | apply Kd.R_alloc | apply Kd.R_drewN | apply Kd.R_drew)); exact HO_0.out) hg hat)).2.2) KL19.out)); have n4_ := Aside0.mk (ho); clear HO_0; clear HB; clear HK; clear HR164; clear HO167; have HO_0 := n0_; have HB := n1_; have HK := n2_; have HR164 := n3_; have HO170 := n4_; clear n0_ n1_ n2_ n3_ n4_; clear ho hb hg hat; have q22 : (x5_1 : Int) ≤ ((l0.length : Int) : Int) := of_decide_eq_true (by first | (with_reducible assumption) | assumption); obtain ⟨i022, hi022, _, hsz22, _⟩ := info_parts info9; have hroom22 : l0.length ≤ co16 := (Kd.R_reads' HO_0.out).2.1; have hC22 : Kd.C Kd.string _ (some ad156) l0.length l0 := (Kd.R_reads' HO_0.out).2.2; have q022 : (0 : Int) ≤ (x5_1 : Int) := of_decide_eq_true (by first | (with_reducible assumption) | assumption); have hcut22 := cut_from (P := Tryd.prog) 32 9 .i64 Tryd.underlying32 hi022 1 hsz22 (some ad156) l0.length co16 x5_1 q022 q22; have hr22 := Kd.C_drop (m := (x5_1 : Int).toNat) (c := co16) hC22 (by omega) hroom22; obtain ⟨A22, hA22⟩ : ∃ A1, A1 = (if co16 = (x5_1 : Int).toNat then (some ad156) else ((some ad156) : Option Addr).map (·.add ((x5_1 : Int).toNat * 1))) := ⟨_, rfl⟩; obtain ⟨c22, hc22⟩ : ∃ c1, c1 = co16 - (x5_1 : Int).toNat := ⟨_, rfl⟩; have hy22 : y171.length = l0.length - (x5_1 : Int).toNat := (by rw [Ny171.out, List.length_drop] <;> omega); rw [show (l0).drop (x5_1 : Int).toNat = y171 from Ny171.out.symm] at hr22; replace hr22 : Kd.C Kd.string _ A22 y171.length y171 := (by rw [hA22]; exact hr22); rw [← hy22, ← hA22, ← hc22] at hcut22; have HR174 := Aside0.mk hr22; have HC174 := Aside0.mk (show y171.length ≤ c22 from by rw [hy22, hc22]; exact Nat.sub_le_sub_right hroom22 _); clear hr22 hC22 hroom22 hi022 hsz22 hc22; have KY22 := Aside0.mk hy22; have KA22 := Aside0.mk hA22; clear hy22 hA22; have KL22 := Aside0.mk (show (x5_1 : Int).toNat ≤ l0.length from by omega); replace q22 := eq_true q22) | ((with_reducible refine gate_builtin (b := .append) (xs := #[.tmp 42, .tmp 45]) rfl ?_); at_builtin; refine Kd.R_append_rows Kd.string (w0 := w0) w0.heap.size rfl (.tmp 42) (.tmp 45) 32 9 (.string ⟨#[]⟩) 16 rfl Tryd.underlying32 info9 rfl (by decide) (by omega) v169 y168 y171 _ _ _ (fun k_ => (P0_ k_ ∨ w.heap.size ≤ k_) ∧ some k_ ≠ (.slice (some ad156) l0.length co16 : Value).ownBlock) (fun _ => False) rfl rfl ?aO ?aR (fun _ _ h => h) (fun _ h => h.elim) ?aF ?aB ?aS ?aL ?_; (case aR => repeat (first | exact (by repeat (first | (with_reducible exact HR174.out) | (with_reducible refine Kd.C_alloc ?_ _) | (with_reducible refine Kd.C_drewN ?_ _) | (with_reducible refine Kd.C_drew ?_) | exact HR174.out)) | (with_reducible refine Kd.C_alloc ?_ _) | (with_reducible refine Kd.C_drewN ?_ _) | (with_reducible refine Kd.C_drew ?_))); (case aB => exact (by repeat (first | (with_reducible first | exact HB.out | apply below_alloc | apply pw_below_drewN | apply below_drew1) | exact HB.out))); (case aF => exact (fun k_ hk => ⟨(.inr (Nat.le_trans (by first | exact HK.out.1 | exact (show Kept w _ (fun k_ => P0_ k_) from by repeat (first | (with_reducible first | exact HK.out | apply Kept.alloc | apply Kept.drewN | apply Kept.drew) | exact HK.out)).1) hk)), Kd.fresh' (Kd.R_lt (by (with_reducible repeat (first | apply Kd.R_alloc | apply Kd.R_drewN | apply Kd.R_drew)); exact HO_0.out)) k_ hk⟩)); (case aO => exact (by (with_reducible repeat (first | apply Kd.R_alloc | apply Kd.R_drewN | apply Kd.R_drew)); exact HO170.out)); (case aS => exact (below_size (by repeat (first | (with_reducible first | exact HB.out | apply below_alloc | apply pw_below_drewN | apply below_drew1) | exact HB.out)))); (case aL => have := LMc15.out; omega); intro v176 w23 ho hb hg hat; rw [← Ny175.out] at ho; have n0_ := Aside0.mk (Kd.R_after (ok := (fun k_ => (P0_ k_ ∨ w.heap.size ≤ k_))) (by (with_reducible repeat (first | apply Kd.R_alloc | apply Kd.R_drewN | apply Kd.R_drew)); exact HO_0.out) hg hat); have n1_ := Aside0.mk (hb); have n2_ := Aside0.mk (Kept.of_grown (S := (fun k_ => P0_ k_)) hg (by repeat (first | (with_reducible first | exact HK.out | apply Kept.alloc | apply Kept.drewN | apply Kept.drew) | exact HK.out)) (fun k_ e_ => (HO170.out.1 k_ e_).1)); have n3_ := Aside0.mk ((show Kd.C Kd.string w23 (some ad156) y161.length y161 from by rw [Ny161.out]; exact Kd.C_take (m := (x5_1 : Int).toNat) ((Kd.R_reads' (Kd.R_after (ok := (fun k_ => (P0_ k_ ∨ w.heap.size ≤ k_))) (by (with_reducible repeat (first | apply Kd.R_alloc | apply Kd.R_drewN | apply Kd.R_drew)); exact HO_0.out) hg hat)).2.2) KL19.out)); have n4_ := Aside0.mk ((show Kd.C Kd.string w23 A22 y171.length y171 from by rw [Ny171.out, KA22.out]; exact Kd.C_drop (m := (x5_1 : Int).toNat) (c := co16) ((Kd.R_reads' (Kd.R_after (ok := (fun k_ => (P0_ k_ ∨ w.heap.size ≤ k_))) (by (with_reducible repeat (first | apply Kd.R_alloc | apply Kd.R_drewN | apply Kd.R_drew)); exact HO_0.out) hg hat)).2.2) KL22.out ((Kd.R_reads' (Kd.R_after (ok := (fun k_ => (P0_ k_ ∨ w.heap.size ≤ k_))) (by (with_reducible repeat (first | apply Kd.R_alloc | apply Kd.R_drewN | apply Kd.R_drew)); exact HO_0.out) hg hat)).2.1))); have n5_ := Aside0.mk (ho); clear HO_0; clear HB; clear HK; clear HR164; clear HR174; clear HO170; have HO_0 := n0_; have HB := n1_; have HK := n2_; have HR164 := n3_; have HR174 := n4_; have HO177 := n5_; clear n0_ n1_ n2_ n3_ n4_ n5_; clear ho hb hg hat))
                      go_ret
                      exact ⟨_, by first | rfl | (simp [errW_none, errW_some] <;> rfl) | (simp [*, errW_none, errW_some] <;> rfl), by (with_reducible repeat (first | apply Kd.R_alloc | apply Kd.R_drewN | apply Kd.R_drew)); exact Kd.R_mono HO177.out (fun _ hk => hk.1), by repeat (first | (with_reducible first | exact HB.out | apply below_alloc | apply pw_below_drewN | apply below_drew1) | exact HB.out), by repeat (first | (with_reducible first | exact HK.out | apply Kept.alloc | apply Kept.drewN | apply Kept.drew) | exact HK.out)⟩
                    · rw [if_neg c15] at H
                      exact absurd H (by simp)
                  · rw [if_neg c12] at H
                    exact absurd H (by simp)
                · rw [if_neg c11] at H
                  exact absurd H (by simp)
              · rw [if_neg c10] at H
                exact absurd H (by simp)
        · rw [if_neg c4] at H
          exact absurd H (by simp)
      · rw [if_neg c3] at H
        have c3b0 : decide (x5_1 < (l0.length : Int)) = false := decide_eq_false c3
        clear c3
        obtain ⟨y178, hy178⟩ : ∃ y_ : List ByteArray, y_ = (([] : List ByteArray)) := ⟨_, rfl⟩
        replace H : (if 0 ≤ x5_1 then (if x5_1 ≤ (l0.length : Int) then ((some (l0.take (x5_1 : Int).toNat : List ByteArray)).bind fun y181 => (if y178.length + y181.length < 8796093022208 then ((some (y178 ++ y181 : List ByteArray)).bind fun y185 => (if y185.length < 8796093022208 then ((some (y185 ++ [a1] : List ByteArray)).bind fun y188 => ((some (l0.drop (x5_1 : Int).toNat : List ByteArray)).bind fun y191 => (if y188.length + y191.length < 8796093022208 then (some (y188 ++ y191)) else (none)))) else (none))) else (none))) else (none)) else (none)) = some r := by first | (rw [hy178]; with_reducible exact H) | (have H2_ := (Option.bind_some _ _).symm.trans H; rw [hy178]; with_reducible exact H2_) | (have H2_ := (Option.bind_some _ _).symm.trans H; with_reducible exact H2_) | with_reducible exact H | (rw [hy178]; exact H) | exact H
        have Ny178 := Aside0.mk hy178
        clear hy178
        by_cases c24 : 0 ≤ x5_1
        · rw [if_pos c24] at H
          have c24b0 := eq_true c24
          have c24b1 : decide (0 ≤ x5_1) = true := decide_eq_true c24
          clear c24
          by_cases c25 : x5_1 ≤ (l0.length : Int)
          · rw [if_pos c25] at H
            have c25b0 := eq_true c25
            have c25b1 : decide (x5_1 ≤ (l0.length : Int)) = true := decide_eq_true c25
            clear c25
            obtain ⟨y181, hy181⟩ : ∃ y_ : List ByteArray, y_ = (l0.take (x5_1 : Int).toNat) := ⟨_, rfl⟩
            replace H : (if y178.length + y181.length < 8796093022208 then ((some (y178 ++ y181 : List ByteArray)).bind fun y185 => (if y185.length < 8796093022208 then ((some (y185 ++ [a1] : List ByteArray)).bind fun y188 => ((some (l0.drop (x5_1 : Int).toNat : List ByteArray)).bind fun y191 => (if y188.length + y191.length < 8796093022208 then (some (y188 ++ y191)) else (none)))) else (none))) else (none)) = some r := by first | (rw [hy181]; with_reducible exact H) | (have H2_ := (Option.bind_some _ _).symm.trans H; rw [hy181]; with_reducible exact H2_) | (have H2_ := (Option.bind_some _ _).symm.trans H; with_reducible exact H2_) | with_reducible exact H | (rw [hy181]; exact H) | exact H
            have Ny181 := Aside0.mk hy181
            clear hy181
            by_cases c26 : y178.length + y181.length < 8796093022208
            · rw [if_pos c26] at H
              have LMc26 := Aside0.mk c26
              clear c26
              obtain ⟨y185, hy185⟩ : ∃ y_ : List ByteArray, y_ = (y178 ++ y181) := ⟨_, rfl⟩
              replace H : (if y185.length < 8796093022208 then ((some (y185 ++ [a1] : List ByteArray)).bind fun y188 => ((some (l0.drop (x5_1 : Int).toNat : List ByteArray)).bind fun y191 => (if y188.length + y191.length < 8796093022208 then (some (y188 ++ y191)) else (none)))) else (none)) = some r := by first | (rw [hy185]; with_reducible exact H) | (have H2_ := (Option.bind_some _ _).symm.trans H; rw [hy185]; with_reducible exact H2_) | (have H2_ := (Option.bind_some _ _).symm.trans H; with_reducible exact H2_) | with_reducible exact H | (rw [hy185]; exact H) | exact H
              have Ny185 := Aside0.mk hy185
              clear hy185
              by_cases c27 : y185.length < 8796093022208
              · rw [if_pos c27] at H
                have LMc27 := Aside0.mk c27
                clear c27
                obtain ⟨y188, hy188⟩ : ∃ y_ : List ByteArray, y_ = (y185 ++ [a1]) := ⟨_, rfl⟩
                replace H : ((some (l0.drop (x5_1 : Int).toNat : List ByteArray)).bind fun y191 => (if y188.length + y191.length < 8796093022208 then (some (y188 ++ y191)) else (none))) = some r := by first | (rw [hy188]; with_reducible exact H) | (have H2_ := (Option.bind_some _ _).symm.trans H; rw [hy188]; with_reducible exact H2_) | (have H2_ := (Option.bind_some _ _).symm.trans H; with_reducible exact H2_) | with_reducible exact H | (rw [hy188]; exact H) | exact H
                have Ny188 := Aside0.mk hy188
                clear hy188
                have c28b0 := eq_true (of_decide_eq_true (by first | (with_reducible assumption) | assumption) : 0 ≤ x5_1)
                have c29b0 := eq_true (of_decide_eq_true (by first | (with_reducible assumption) | assumption) : x5_1 ≤ (l0.length : Int))
                obtain ⟨y191, hy191⟩ : ∃ y_ : List ByteArray, y_ = (l0.drop (x5_1 : Int).toNat) := ⟨_, rfl⟩
                replace H : (if y188.length + y191.length < 8796093022208 then (some (y188 ++ y191)) else (none)) = some r := by first | (rw [hy191]; with_reducible exact H) | (have H2_ := (Option.bind_some _ _).symm.trans H; rw [hy191]; with_reducible exact H2_) | (have H2_ := (Option.bind_some _ _).symm.trans H; with_reducible exact H2_) | with_reducible exact H | (rw [hy191]; exact H) | exact H
                have Ny191 := Aside0.mk hy191
                clear hy191
                by_cases c30 : y188.length + y191.length < 8796093022208
                · rw [if_pos c30] at H
                  have LMc30 := Aside0.mk c30
                  clear c30
                  obtain ⟨y195, hy195⟩ : ∃ y_ : List ByteArray, y_ = (y188 ++ y191) := ⟨_, rfl⟩
                  replace H : (some y195) = some r := by first | (rw [hy195]; with_reducible exact H) | (have H2_ := (Option.bind_some _ _).symm.trans H; rw [hy195]; with_reducible exact H2_) | (have H2_ := (Option.bind_some _ _).symm.trans H; with_reducible exact H2_) | with_reducible exact H | (rw [hy195]; exact H) | exact H
                  have Ny195 := Aside0.mk hy195
                  clear hy195
                  obtain rfl := Option.some.inj H
                  obtain ⟨Ao31, co31, eo31⟩ := Kd.R_slice HO_0.out
                  subst eo31
                  go_wp2_with (first | ((with_reducible refine gate_dst (N := 34) rfl ?_); refine Kd.R_lit Kd.string _ 9 ?hg (N := 34) ?hd (xs := ([] : List ByteArray)) (inner := []) (ok := fun _ => True) (okp := fun _ => True) ?hr ?hp (fun _ hk => hk) trivial (Below.refl _ _) (Nat.le_refl _) (by simp) ?_; (case hd => rfl); (case hg => rfl); (case hr => first | (go_simp; done) | (go_simp; rfl)); (case hp => exact (Reps.none _ _)); intro v179 w32 ho33 hb hg_ hnew_; clear hg_ hnew_; (first | rw [← Ny178.out] at ho33 | (simp only [Int.reduceToNat] at ho33; rw [← Ny178.out] at ho33)); have n0_ := Aside0.mk (Kd.R_elder' (by (with_reducible repeat (first | apply Kd.R_alloc | apply Kd.R_drewN | apply Kd.R_drew)); exact HO_0.out) (Kd.R_base ho33) hb); have n1_ := Aside0.mk (Kd.R_lower (Kd.R_new' (Kd.R_newM (M := fun k_ => (P0_ k_ ∨ w.heap.size ≤ k_)) ho33 (by first | exact HK.out.1 | exact (show Kept w _ (fun k_ => P0_ k_) from by repeat (first | (with_reducible first | exact HK.out | apply Kept.alloc | apply Kept.drewN | apply Kept.drew) | exact HK.out)).1) (fun k_ h_ => .inr h_)) (Kd.R_lt (by (with_reducible repeat (first | apply Kd.R_alloc | apply Kd.R_drewN | apply Kd.R_drew)); exact HO_0.out))) (below_size (by repeat (first | (with_reducible first | exact HB.out | apply below_alloc | apply pw_below_drewN | apply below_drew1) | exact HB.out)))); have n2_ := Aside0.mk (Kept.below (S := (fun k_ => P0_ k_)) (by repeat (first | (with_reducible first | exact HK.out | apply Kept.alloc | apply Kept.drewN | apply Kept.drew) | exact HK.out)) hb); have n3_ := Aside0.mk (below_step (by repeat (first | (with_reducible first | exact HB.out | apply below_alloc | apply pw_below_drewN | apply below_drew1) | exact HB.out)) hb); clear HO_0; clear HK; clear HB; have HO_0 := n0_; have HO180 := n1_; have HK := n2_; have HB := n3_; clear n0_ n1_ n2_ n3_; clear hb ho33; have q34 : (x5_1 : Int) ≤ ((l0.length : Int) : Int) := of_decide_eq_true (by first | (with_reducible assumption) | assumption); obtain ⟨i034, hi034, _, hsz34, _⟩ := info_parts info9; have hroom34 : l0.length ≤ co31 := (Kd.R_reads' HO_0.out).2.1; have hC34 : Kd.C Kd.string _ Ao31 l0.length l0 := (Kd.R_reads' HO_0.out).2.2; have hcut34 := cut_to (P := Tryd.prog) 32 9 .i64 Tryd.underlying32 hi034 Ao31 l0.length co31 x5_1 (of_decide_eq_true (by first | (with_reducible assumption) | assumption)) q34 hroom34; have hr34 := Kd.C_take (m := (x5_1 : Int).toNat) hC34 (by omega); have hy34 : y181.length = (x5_1 : Int).toNat := (by rw [Ny181.out, List.length_take]; omega); rw [← Ny181.out] at hr34; rw [← hy34] at hcut34; have HR184 := Aside0.mk hr34; have HC184 := Aside0.mk (show y181.length ≤ co31 from by omega); clear hr34 hC34 hroom34 hi034 hsz34; have KY34 := Aside0.mk hy34; clear hy34; have KL34 := Aside0.mk (show (x5_1 : Int).toNat ≤ l0.length from by omega); replace q34 := eq_true q34) | ((with_reducible refine gate_builtin (b := .append) (xs := #[.tmp 34, .tmp 37]) rfl ?_); at_builtin; refine Kd.R_append_rows Kd.string (w0 := w0) w0.heap.size rfl (.tmp 34) (.tmp 37) 32 9 (.string ⟨#[]⟩) 16 rfl Tryd.underlying32 info9 rfl (by decide) (by omega) v179 y178 y181 _ _ _ (fun k_ => (P0_ k_ ∨ w.heap.size ≤ k_) ∧ some k_ ≠ (.slice Ao31 l0.length co31 : Value).ownBlock) (fun _ => False) rfl rfl ?aO ?aR (fun _ _ h => h) (fun _ h => h.elim) ?aF ?aB ?aS ?aL ?_; (case aR => repeat (first | exact (by repeat (first | (with_reducible exact HR184.out) | (with_reducible refine Kd.C_alloc ?_ _) | (with_reducible refine Kd.C_drewN ?_ _) | (with_reducible refine Kd.C_drew ?_) | exact HR184.out)) | (with_reducible refine Kd.C_alloc ?_ _) | (with_reducible refine Kd.C_drewN ?_ _) | (with_reducible refine Kd.C_drew ?_))); (case aB => exact (by repeat (first | (with_reducible first | exact HB.out | apply below_alloc | apply pw_below_drewN | apply below_drew1) | exact HB.out))); (case aF => exact (fun k_ hk => ⟨(.inr (Nat.le_trans (by first | exact HK.out.1 | exact (show Kept w _ (fun k_ => P0_ k_) from by repeat (first | (with_reducible first | exact HK.out | apply Kept.alloc | apply Kept.drewN | apply Kept.drew) | exact HK.out)).1) hk)), Kd.fresh' (Kd.R_lt (by (with_reducible repeat (first | apply Kd.R_alloc | apply Kd.R_drewN | apply Kd.R_drew)); exact HO_0.out)) k_ hk⟩)); (case aO => exact (by (with_reducible repeat (first | apply Kd.R_alloc | apply Kd.R_drewN | apply Kd.R_drew)); exact Kd.R_mono HO180.out (fun _ hk => ⟨hk.1.1, hk.2⟩))); (case aS => exact (below_size (by repeat (first | (with_reducible first | exact HB.out | apply below_alloc | apply pw_below_drewN | apply below_drew1) | exact HB.out)))); (case aL => have := LMc26.out; omega); intro v186 w35 ho hb hg hat; rw [← Ny185.out] at ho; have n0_ := Aside0.mk (Kd.R_after (ok := (fun k_ => (P0_ k_ ∨ w.heap.size ≤ k_))) (by (with_reducible repeat (first | apply Kd.R_alloc | apply Kd.R_drewN | apply Kd.R_drew)); exact HO_0.out) hg hat); have n1_ := Aside0.mk (hb); have n2_ := Aside0.mk (Kept.of_grown (S := (fun k_ => P0_ k_)) hg (by repeat (first | (with_reducible first | exact HK.out | apply Kept.alloc | apply Kept.drewN | apply Kept.drew) | exact HK.out)) (fun k_ e_ => (HO180.out.1 k_ e_).1.1)); have n3_ := Aside0.mk ((show Kd.C Kd.string w35 Ao31 y181.length y181 from by rw [Ny181.out]; exact Kd.C_take (m := (x5_1 : Int).toNat) ((Kd.R_reads' (Kd.R_after (ok := (fun k_ => (P0_ k_ ∨ w.heap.size ≤ k_))) (by (with_reducible repeat (first | apply Kd.R_alloc | apply Kd.R_drewN | apply Kd.R_drew)); exact HO_0.out) hg hat)).2.2) KL34.out)); have n4_ := Aside0.mk (ho); clear HO_0; clear HB; clear HK; clear HR184; clear HO180; have HO_0 := n0_; have HB := n1_; have HK := n2_; have HR184 := n3_; have HO187 := n4_; clear n0_ n1_ n2_ n3_ n4_; clear ho hb hg hat) | ((with_reducible refine gate_builtin (b := .append) (xs := #[.tmp 38, .tmp 40]) rfl ?_); at_builtin; refine Kd.R_append Kd.string (w0 := w0) w0.heap.size rfl (.tmp 38) (.tmp 40) 32 9 (.string ⟨#[]⟩) 16 rfl Tryd.underlying32 info9 rfl (by decide) (by omega) v186 y185 a1 [.string a1] (fun k_ => (P0_ k_ ∨ w.heap.size ≤ k_) ∧ some k_ ≠ (.slice Ao31 l0.length co31 : Value).ownBlock) (fun _ => False) rfl rfl ?aP (fun _ hk => hk.elim) ?aF ?aO ?aB ?aS ?aL ?_; (case aP => exact rfl); (case aB => exact (by repeat (first | (with_reducible first | exact HB.out | apply below_alloc | apply pw_below_drewN | apply below_drew1) | exact HB.out))); (case aF => exact (fun k_ hk => ⟨(.inr (Nat.le_trans (by first | exact HK.out.1 | exact (show Kept w _ (fun k_ => P0_ k_) from by repeat (first | (with_reducible first | exact HK.out | apply Kept.alloc | apply Kept.drewN | apply Kept.drew) | exact HK.out)).1) hk)), Kd.fresh' (Kd.R_lt (by (with_reducible repeat (first | apply Kd.R_alloc | apply Kd.R_drewN | apply Kd.R_drew)); exact HO_0.out)) k_ hk⟩)); (case aO => exact (by (with_reducible repeat (first | apply Kd.R_alloc | apply Kd.R_drewN | apply Kd.R_drew)); exact HO187.out)); (case aS => exact (below_size (by repeat (first | (with_reducible first | exact HB.out | apply below_alloc | apply pw_below_drewN | apply below_drew1) | exact HB.out)))); (case aL => have := LMc27.out; omega); intro v189 w36 ho hb hg hat; rw [← Ny188.out] at ho; have n0_ := Aside0.mk (Kd.R_after (ok := (fun k_ => (P0_ k_ ∨ w.heap.size ≤ k_))) (by (with_reducible repeat (first | apply Kd.R_alloc | apply Kd.R_drewN | apply Kd.R_drew)); exact HO_0.out) hg hat); have n1_ := Aside0.mk (hb); have n2_ := Aside0.mk (Kept.of_grown (S := (fun k_ => P0_ k_)) hg (by repeat (first | (with_reducible first | exact HK.out | apply Kept.alloc | apply Kept.drewN | apply Kept.drew) | exact HK.out)) (fun k_ e_ => (HO187.out.1 k_ e_).1)); have n3_ := Aside0.mk ((show Kd.C Kd.string w36 Ao31 y181.length y181 from by rw [Ny181.out]; exact Kd.C_take (m := (x5_1 : Int).toNat) ((Kd.R_reads' (Kd.R_after (ok := (fun k_ => (P0_ k_ ∨ w.heap.size ≤ k_))) (by (with_reducible repeat (first | apply Kd.R_alloc | apply Kd.R_drewN | apply Kd.R_drew)); exact HO_0.out) hg hat)).2.2) KL34.out)); have n4_ := Aside0.mk (ho); clear HO_0; clear HB; clear HK; clear HR184; clear HO187; have HO_0 := n0_; have HB := n1_; have HK := n2_; have HR184 := n3_; have HO190 := n4_; clear n0_ n1_ n2_ n3_ n4_; clear ho hb hg hat; have q37 : (x5_1 : Int) ≤ ((l0.length : Int) : Int) := of_decide_eq_true (by first | (with_reducible assumption) | assumption); obtain ⟨i037, hi037, _, hsz37, _⟩ := info_parts info9; have hroom37 : l0.length ≤ co31 := (Kd.R_reads' HO_0.out).2.1; have hC37 : Kd.C Kd.string _ Ao31 l0.length l0 := (Kd.R_reads' HO_0.out).2.2; have q037 : (0 : Int) ≤ (x5_1 : Int) := of_decide_eq_true (by first | (with_reducible assumption) | assumption); have hcut37 := cut_from (P := Tryd.prog) 32 9 .i64 Tryd.underlying32 hi037 1 hsz37 Ao31 l0.length co31 x5_1 q037 q37; have hr37 := Kd.C_drop (m := (x5_1 : Int).toNat) (c := co31) hC37 (by omega) hroom37; obtain ⟨A37, hA37⟩ : ∃ A1, A1 = (if co31 = (x5_1 : Int).toNat then Ao31 else (Ao31 : Option Addr).map (·.add ((x5_1 : Int).toNat * 1))) := ⟨_, rfl⟩; obtain ⟨c37, hc37⟩ : ∃ c1, c1 = co31 - (x5_1 : Int).toNat := ⟨_, rfl⟩; have hy37 : y191.length = l0.length - (x5_1 : Int).toNat := (by rw [Ny191.out, List.length_drop] <;> omega); rw [show (l0).drop (x5_1 : Int).toNat = y191 from Ny191.out.symm] at hr37; replace hr37 : Kd.C Kd.string _ A37 y191.length y191 := (by rw [hA37]; exact hr37); rw [← hy37, ← hA37, ← hc37] at hcut37; have HR194 := Aside0.mk hr37; have HC194 := Aside0.mk (show y191.length ≤ c37 from by rw [hy37, hc37]; exact Nat.sub_le_sub_right hroom37 _); clear hr37 hC37 hroom37 hi037 hsz37 hc37; have KY37 := Aside0.mk hy37; have KA37 := Aside0.mk hA37; clear hy37 hA37; have KL37 := Aside0.mk (show (x5_1 : Int).toNat ≤ l0.length from by omega); replace q37 := eq_true q37) | ((with_reducible refine gate_builtin (b := .append) (xs := #[.tmp 42, .tmp 45]) rfl ?_); at_builtin; refine Kd.R_append_rows Kd.string (w0 := w0) w0.heap.size rfl (.tmp 42) (.tmp 45) 32 9 (.string ⟨#[]⟩) 16 rfl Tryd.underlying32 info9 rfl (by decide) (by omega) v189 y188 y191 _ _ _ (fun k_ => (P0_ k_ ∨ w.heap.size ≤ k_) ∧ some k_ ≠ (.slice Ao31 l0.length co31 : Value).ownBlock) (fun _ => False) rfl rfl ?aO ?aR (fun _ _ h => h) (fun _ h => h.elim) ?aF ?aB ?aS ?aL ?_; (case aR => repeat (first | exact (by repeat (first | (with_reducible exact HR194.out) | (with_reducible refine Kd.C_alloc ?_ _) | (with_reducible refine Kd.C_drewN ?_ _) | (with_reducible refine Kd.C_drew ?_) | exact HR194.out)) | (with_reducible refine Kd.C_alloc ?_ _) | (with_reducible refine Kd.C_drewN ?_ _) | (with_reducible refine Kd.C_drew ?_))); (case aB => exact (by repeat (first | (with_reducible first | exact HB.out | apply below_alloc | apply pw_below_drewN | apply below_drew1) | exact HB.out))); (case aF => exact (fun k_ hk => ⟨(.inr (Nat.le_trans (by first | exact HK.out.1 | exact (show Kept w _ (fun k_ => P0_ k_) from by repeat (first | (with_reducible first | exact HK.out | apply Kept.alloc | apply Kept.drewN | apply Kept.drew) | exact HK.out)).1) hk)), Kd.fresh' (Kd.R_lt (by (with_reducible repeat (first | apply Kd.R_alloc | apply Kd.R_drewN | apply Kd.R_drew)); exact HO_0.out)) k_ hk⟩)); (case aO => exact (by (with_reducible repeat (first | apply Kd.R_alloc | apply Kd.R_drewN | apply Kd.R_drew)); exact HO190.out)); (case aS => exact (below_size (by repeat (first | (with_reducible first | exact HB.out | apply below_alloc | apply pw_below_drewN | apply below_drew1) | exact HB.out)))); (case aL => have := LMc30.out; omega); intro v196 w38 ho hb hg hat; rw [← Ny195.out] at ho; have n0_ := Aside0.mk (Kd.R_after (ok := (fun k_ => (P0_ k_ ∨ w.heap.size ≤ k_))) (by (with_reducible repeat (first | apply Kd.R_alloc | apply Kd.R_drewN | apply Kd.R_drew)); exact HO_0.out) hg hat); have n1_ := Aside0.mk (hb); have n2_ := Aside0.mk (Kept.of_grown (S := (fun k_ => P0_ k_)) hg (by repeat (first | (with_reducible first | exact HK.out | apply Kept.alloc | apply Kept.drewN | apply Kept.drew) | exact HK.out)) (fun k_ e_ => (HO190.out.1 k_ e_).1)); have n3_ := Aside0.mk ((show Kd.C Kd.string w38 Ao31 y181.length y181 from by rw [Ny181.out]; exact Kd.C_take (m := (x5_1 : Int).toNat) ((Kd.R_reads' (Kd.R_after (ok := (fun k_ => (P0_ k_ ∨ w.heap.size ≤ k_))) (by (with_reducible repeat (first | apply Kd.R_alloc | apply Kd.R_drewN | apply Kd.R_drew)); exact HO_0.out) hg hat)).2.2) KL34.out)); have n4_ := Aside0.mk ((show Kd.C Kd.string w38 A37 y191.length y191 from by rw [Ny191.out, KA37.out]; exact Kd.C_drop (m := (x5_1 : Int).toNat) (c := co31) ((Kd.R_reads' (Kd.R_after (ok := (fun k_ => (P0_ k_ ∨ w.heap.size ≤ k_))) (by (with_reducible repeat (first | apply Kd.R_alloc | apply Kd.R_drewN | apply Kd.R_drew)); exact HO_0.out) hg hat)).2.2) KL37.out ((Kd.R_reads' (Kd.R_after (ok := (fun k_ => (P0_ k_ ∨ w.heap.size ≤ k_))) (by (with_reducible repeat (first | apply Kd.R_alloc | apply Kd.R_drewN | apply Kd.R_drew)); exact HO_0.out) hg hat)).2.1))); have n5_ := Aside0.mk (ho); clear HO_0; clear HB; clear HK; clear HR184; clear HR194; clear HO190; have HO_0 := n0_; have HB := n1_; have HK := n2_; have HR184 := n3_; have HR194 := n4_; have HO197 := n5_; clear n0_ n1_ n2_ n3_ n4_ n5_; clear ho hb hg hat))
                  go_ret
                  exact ⟨_, by first | rfl | (simp [errW_none, errW_some] <;> rfl) | (simp [*, errW_none, errW_some] <;> rfl), by (with_reducible repeat (first | apply Kd.R_alloc | apply Kd.R_drewN | apply Kd.R_drew)); exact Kd.R_mono HO197.out (fun _ hk => hk.1), by repeat (first | (with_reducible first | exact HB.out | apply below_alloc | apply pw_below_drewN | apply below_drew1) | exact HB.out), by repeat (first | (with_reducible first | exact HK.out | apply Kept.alloc | apply Kept.drewN | apply Kept.drew) | exact HK.out)⟩
                · rw [if_neg c30] at H
                  exact absurd H (by simp)
              · rw [if_neg c27] at H
                exact absurd H (by simp)
            · rw [if_neg c26] at H
              exact absurd H (by simp)
          · rw [if_neg c25] at H
            exact absurd H (by simp)
        · rw [if_neg c24] at H
          exact absurd H (by simp)


/-! ### slices_Sort_string_string: function 72 -/
/-- slices.Sort: the same row, sorted by bytes -/
def slices_Sort_string_string.f (l0 : List ByteArray) : Option (List ByteArray) := if l0.length ≤ 1048576 then some (((l0.map (·.data.toList)).mergeSort fun x y => decide (x ≤ y)).map fun b => ⟨b.toArray⟩) else none
open Go.Sort in
set_option maxHeartbeats 2000000 in
theorem slices_Sort_string_string.calls (P0_ : Nat → Prop) (u9000_ : Value) (l0 : List ByteArray) (r : List ByteArray) (w0 w : World) (hB : Below w0.heap.size w0 w) (ho0 : Kd.R Kd.string 9 w w0.heap.size P0_ u9000_ l0) (h : slices_Sort_string_string.f l0 = some r) :
    Calls Tryd.prog 72 #[u9000_] w fun e w' => e = .returned (.tuple #[]) ∧ Kd.R Kd.string 9 w' w0.heap.size (fun k_ => (P0_ k_ ∨ w.heap.size ≤ k_)) u9000_ r ∧ Below w0.heap.size w0 w' ∧ Kept w w' (fun k_ => P0_ k_) := by
  unfold slices_Sort_string_string.f at h
  split at h
  · rename_i hlen
    have e := Option.some.inj h
    subst e
    have hok := ho0.1
    have own := Kd.own_of_R ho0
    rcases own.2 with ⟨rfl, hn⟩ | ⟨g, cap, cur, rfl, hg, hb, hn, hcap, hcur, htake⟩
    · have : l0 = [] := List.eq_nil_of_length_eq_zero hn
      subst this
      refine (Tryd.slices_Sort_string_none none 0 w).mono ?_
      rintro e w' ⟨rfl, rfl⟩
      have e0 : ((([] : List ByteArray).map (·.data.toList)).mergeSort fun x y => decide (x ≤ y)).map (fun b => (⟨b.toArray⟩ : ByteArray)) = [] := by simp
      rw [e0]
      exact ⟨rfl, Kd.R_of_own (World.ownsRow_nil _ _ _ _) (fun k hk => by cases hk), hB, Kept.refl _ _⟩
    · have hgs : g < w.heap.size := (Array.getElem?_eq_some_iff.1 hb).1
      have hH : Holds encStr w g 0 (l0.map (·.data.toList)).toArray := by
        intro j hj
        have hj' : j < l0.length := by simpa using hj
        refine ⟨?_, blk_frozen hb (0 + j)⟩
        rw [Nat.zero_add, own.cellAt j (by omega)]
        simp [encs, encStr, hj']
      have hz : (l0.map (·.data.toList)).length = l0.length := by simp
      have hS := Tryd.slices_Sort_string g 0 cap (l0.map (·.data.toList)) w hH hgs (by rw [hz]; omega)
      rw [hz] at hS
      refine hS.mono ?_
      rintro e w' ⟨rfl, n, os, rfl⟩
      have hgr := grownBy_sorted (w := w) (g := g) (n := n) (os := os) ((l0.map (·.data.toList)).mergeSort fun x y => decide (x ≤ y)).toArray
      have hown := ownsRow_sorted (n := n) (os := os) (ss := l0.map (·.data.toList)) (ts := (l0.map (·.data.toList)).mergeSort fun x y => decide (x ≤ y)) (by simp) hg hb (by rw [hz]; exact hn) hcap hcur
      rw [hz] at hown
      refine ⟨rfl, Kd.R_of_own ?_ (fun k hk => .inl (hok k hk)), hB.grown hgr hB.size (fun j hj => by cases hj; exact hg), Kept.of_grown hgr (Kept.refl w _) (fun k hk => .inl (hok k (by simpa [Value.ownBlock] using hk)))⟩
      rw [List.length_map, List.length_mergeSort, hz]
      have e2 : encs Value.string (((l0.map (·.data.toList)).mergeSort fun x y => decide (x ≤ y)).map fun b => (⟨b.toArray⟩ : ByteArray)) = ((l0.map (·.data.toList)).mergeSort fun x y => decide (x ≤ y)).map encStr := by
        simp [encs, encStr, Function.comp_def]
      rw [e2]
      exact hown
  · exact absurd h (by simp)


/-! ### slices_Compact_string_string: function 73 -/
theorem cmp_take (cur : Array Value) (ts us : List (List UInt8)) (h : ts.length + us.length ≤ cur.size) : (Go.Sort.putCells encStr 0 (ts ++ us).toArray cur).toList.take ts.length = ts.map encStr := by
  apply List.ext_getElem?
  intro j
  by_cases hj : j < ts.length
  · rw [List.getElem?_take_of_lt hj, Array.getElem?_toList]
    simp [Go.Sort.putCells, hj, show j < cur.size by omega, show j < ts.length + us.length by omega]
  · rw [List.getElem?_take_eq_none (by omega), List.getElem?_eq_none (by simp; omega)]
theorem cmp_grown {w : World} {g n : Nat} (d : Array (List UInt8)) : w.grownBy (Go.Sort.putRow encStr (Go.Sort.ahead w n) g 0 d) (some g) := by
  refine ⟨rfl, rfl, rfl, by simp, fun k hk hne => ?_⟩
  have : g ≠ k := fun e => hne (by rw [e])
  simp [Go.Sort.putRow, Go.Sort.mapBlock, Go.Sort.ahead, Array.getElem?_modify, this]
/-- what slices.Compact leaves -/
def compactB (l : List ByteArray) : List ByteArray := (Lib.compact (l.map (·.data.toList))).map fun b => ⟨b.toArray⟩
open Go.Sort in
set_option maxHeartbeats 2000000 in
/-- slices.Compact over a row of the call's own -/
theorem compact_string (P0_ : Nat → Prop) (u : Value) (l : List ByteArray) (w0 w : World) (hB : Below w0.heap.size w0 w) (ho0 : Kd.R Kd.string 9 w w0.heap.size P0_ u l) (hlen : l.length ≤ 1048576) :
    Calls Tryd.prog 73 #[u] w fun e w' => ∃ v, e = .returned v ∧ Kd.R Kd.string 9 w' w0.heap.size (fun _ => True) v (compactB l) ∧ Below w0.heap.size w0 w' := by
  have own := Kd.own_of_R ho0
  rcases own.2 with ⟨rfl, hn⟩ | ⟨g, cap, cur, rfl, hg, hb, hn, hcap, hcur, htake⟩
  · have : l = [] := List.eq_nil_of_length_eq_zero hn
    subst this
    refine (Tryd.slices_Compact_string_empty none 0 w).mono ?_
    rintro e w' ⟨rfl, rfl⟩
    exact ⟨_, rfl, Kd.R_of_own (World.ownsRow_nil _ _ _ _) (fun k hk => trivial), hB⟩
  · have hz : (l.map (·.data.toList)).length = l.length := by simp
    have hH : Holds encStr w g 0 (l.map (·.data.toList)).toArray := by
      intro j hj
      have hj' : j < l.length := by simpa using hj
      refine ⟨?_, blk_frozen hb (0 + j)⟩
      rw [Nat.zero_add, own.cellAt j (by omega)]
      simp [encs, encStr, hj']
    have hS := Tryd.slices_Compact_string g 0 cap (l.map (·.data.toList)) w hH (by omega) (by omega)
    have hle : (Lib.compact (l.map (·.data.toList))).length ≤ l.length := by
      have h1 := List.length_filter_le (Lib.keeps (l.map (·.data.toList)).toArray) (List.range (l.map (·.data.toList)).length)
      rw [List.length_range] at h1
      unfold Lib.compact Lib.compactUpTo
      rw [List.length_map]
      omega
    rw [hz] at hS
    refine hS.mono ?_
    rintro e w' ⟨rfl, q, rfl⟩
    refine ⟨_, rfl, Kd.R_of_own ?_ (fun k hk => trivial), hB.grown (cmp_grown _) hB.size (fun j hj => by cases hj; exact hg)⟩
    have hblk : (putRow encStr (Go.Sort.ahead w q) g 0 (Lib.compact (l.map (fun s : ByteArray => s.data.toList)) ++ List.replicate (l.length - (Lib.compact (l.map (fun s : ByteArray => s.data.toList))).length) []).toArray).heap[g]? = some (.cells (putCells encStr 0 (Lib.compact (l.map (fun s : ByteArray => s.data.toList)) ++ List.replicate (l.length - (Lib.compact (l.map (fun s : ByteArray => s.data.toList))).length) []).toArray cur) 9 (0, 0)) := by
      simp [putRow, mapBlock, Go.Sort.ahead, Array.getElem?_modify, hb, onCells]
    have hl2 : (compactB l).length = (Lib.compact (l.map (·.data.toList))).length := by unfold compactB; rw [List.length_map]
    have he : encs Value.string (compactB l) = (Lib.compact (l.map (·.data.toList))).map encStr := by simp [encs, encStr, compactB, Function.comp_def]
    rw [hl2, he]
    refine ⟨by simp, .inr ⟨g, cap, _, rfl, hg, hblk, by omega, hcap, by simp [putCells, hcur], ?_⟩⟩
    rw [Nat.mul_one]
    exact cmp_take cur _ _ (by rw [List.length_replicate]; omega)


/-! ### impl_sorted: function 48 -/
/-- what slices.Sort writes -/
def sortT (l : List ByteArray) : List ByteArray := ((l.map (·.data.toList)).mergeSort fun x y => decide (x ≤ y)).map fun b => ⟨b.toArray⟩
set_option maxHeartbeats 2000000 in
/-- sorted: the same row, in order, each text once -/
theorem sorted_string (P0_ : Nat → Prop) (u : Value) (l : List ByteArray) (w0 w : World) (hB : Below w0.heap.size w0 w) (ho0 : Kd.R Kd.string 9 w w0.heap.size P0_ u l) (hlen : l.length ≤ 1048576) :
    Calls Tryd.prog 48 #[u] w fun e w' => ∃ v, e = .returned v ∧ Kd.R Kd.string 9 w' w0.heap.size (fun _ => True) v (compactB (sortT l)) ∧ Below w0.heap.size w0 w' := by
  have hs := slices_Sort_string_string.calls P0_ u l (sortT l) w0 w hB ho0 (by unfold slices_Sort_string_string.f; rw [if_pos hlen]; rfl)
  have hl : (sortT l).length ≤ 1048576 := by unfold sortT; rw [List.length_map, List.length_mergeSort, List.length_map]; exact hlen
  have hc := fun (W : World) hW hr => compact_string (fun k_ => (P0_ k_ ∨ w.heap.size ≤ k_)) u (sortT l) w0 W hW hr hl
  generalize compactB (sortT l) = r at hc ⊢
  generalize sortT l = s at hs hc
  clear hB ho0 hlen hl
  go_enter Tryd.func48, Tryd.ntmps48
  go_wp2_with fail
  refine hs.mono ?_
  rintro e w1 ⟨rfl, hR, hb1, _⟩
  have hcall := hc w1 hb1 hR
  clear hs hc hR
  go_wp2_with fail
  refine hcall.mono ?_
  rintro e w2 ⟨v, rfl, hR2, hb2⟩
  clear hcall
  go_wp2
  go_ret
  exact ⟨_, rfl, hR2, hb2⟩


/-! ### impl_SwapRepairs: function 20 -/
/-- a number with two neighbours swapped -/
def swapE (a : ByteArray) (j x k : Int) : ByteArray := (((a.extract 0 (j : Int).toNat) ++ (a.extract (x : Int).toNat (k : Int).toNat)) ++ (a.extract (j : Int).toNat (x : Int).toNat)) ++ (a.extract (k : Int).toNat a.size)
def swapT (a : ByteArray) (i : Nat) : ByteArray := swapE a ((i : Int) - 1) i ((i : Int) + 1)
/-- those of some texts that are another one and that something says yes of -/
def pickO (g : ByteArray → Option Bool) (a : ByteArray) : List ByteArray → List ByteArray → Option (List ByteArray)
  | [], acc => some acc
  | t :: l, acc => if t = a then pickO g a l acc else (g t).bind fun b => pickO g a l (if b = true then acc ++ [t] else acc)
theorem pickO_leO {g h : ByteArray → Option Bool} (a : ByteArray) (hg : ∀ d, LeO (g d) (h d)) : ∀ l acc, LeO (pickO g a l acc) (pickO h a l acc)
  | [], acc => LeO.refl _
  | t :: l, acc => LeO.ite (pickO_leO a hg l acc) (LeO.bind (hg t) (fun _ => pickO_leO a hg l _))
theorem pickO_len {g : ByteArray → Option Bool} {a : ByteArray} : ∀ {l acc r}, pickO g a l acc = some r → r.length ≤ acc.length + l.length
  | [], acc, r, h => by simp only [pickO, Option.some.injEq] at h; subst h; simp
  | t :: l, acc, r, h => by
    simp only [pickO] at h
    split at h
    · have := pickO_len h; simp only [List.length_cons]; omega
    · obtain ⟨b, _, h⟩ := Option.bind_eq_some_iff.mp h
      have := pickO_len h
      cases b <;> simp at this ⊢ <;> omega
theorem pickO_le {g : ByteArray → Option Bool} {a : ByteArray} : ∀ {l acc r}, pickO g a l acc = some r → acc.length ≤ r.length
  | [], acc, r, h => by simp only [pickO, Option.some.injEq] at h; subst h; omega
  | t :: l, acc, r, h => by
    simp only [pickO] at h
    split at h
    · exact pickO_le h
    · obtain ⟨b, _, h⟩ := Option.bind_eq_some_iff.mp h
      have := pickO_le h
      cases b <;> simp at this ⊢ <;> omega
def swapsT (a : ByteArray) (n : Nat) : List ByteArray := (List.range (n - 1)).map fun i => swapT a (i + 1)
theorem swaps_drop (a : ByteArray) {n i : Nat} (h1 : 1 ≤ i) (h : i < n) : (swapsT a n).drop (i - 1) = swapT a i :: (swapsT a n).drop i := by
  have hl : i - 1 < (swapsT a n).length := by unfold swapsT; rw [List.length_map, List.length_range]; omega
  rw [List.drop_eq_getElem_cons hl, show i - 1 + 1 = i by omega]
  congr 1
  simp only [swapsT, List.getElem_map, List.getElem_range, show i - 1 + 1 = i by omega]
theorem ne_list {a b : ByteArray} (h : a ≠ b) : (a.toList != b.toList) = true := by
  rw [bne_iff_ne, Lib.toList_data, Lib.toList_data]
  intro e
  apply h
  cases a; cases b; exact congrArg ByteArray.mk (Array.toList_inj.mp e)
def impl_SwapRepairs.f (k : Nat) (a0_0 : Int) (l0_1 : List Int) (a1 : ByteArray) : Option (List ByteArray × Bool) :=
  (impl_numberOk.f a0_0 l0_1 a1).bind fun g => if g = true then (if l0_1.length ≤ 1000 ∧ 1 ≤ l0_1.length ∧ a1.size = l0_1.length + 1 then (pickO (rightO k a0_0 l0_1) a1 (swapsT a1 l0_1.length) []).bind fun l => some (compactB (sortT l), true) else none) else some ([], false)
theorem impl_SwapRepairs.mono : ∀ a0_0 a0_1 a1 k, LeO (impl_SwapRepairs.f k a0_0 a0_1 a1) (impl_SwapRepairs.f (k + 1) a0_0 a0_1 a1) := by
  intro a0 a1 a2 k
  unfold impl_SwapRepairs.f
  exact LeO.bind (LeO.refl _) (fun _ => LeO.ite (LeO.ite (LeO.bind (pickO_leO _ (fun t => rightO_mono a0 a1 t k) _ _) (fun _ => LeO.refl _)) (LeO.refl _)) (LeO.refl _))
set_option maxHeartbeats 8000000 in
set_option maxRecDepth 100000 in
theorem impl_SwapRepairs.calls (k : Nat) (a0_0 : Int) (A0_1 : Option Addr) (c0_1 : Nat) (l0_1 : List Int) (a1 : ByteArray) (r1 : List ByteArray) (r2 : Bool) (w : World) (hr0_1 : Kd.C (Kd.int .i64) w A0_1 l0_1.length l0_1) (hc0_1 : l0_1.length ≤ c0_1) (h : impl_SwapRepairs.f k a0_0 l0_1 a1 = some (r1, r2)) :
    Calls Tryd.prog 20 #[.agg #[.int .i64 a0_0, .slice A0_1 l0_1.length c0_1], .string a1] w fun e w' => ∃ v0_ : Value, e = .returned (.tuple #[v0_, .bool r2]) ∧ Kd.R Kd.string 9 w' w.heap.size (fun _ => True) v0_ r1 ∧ Below w.heap.size w w' := by
  have hu := Tryd.underlying28
  replace h := Option.bind_eq_some_iff.mp h
  obtain ⟨g, hg, h⟩ := h
  have hgood := fun (W : World) (hW : Below w.heap.size w W) => impl_numberOk.calls a0_0 A0_1 c0_1 l0_1 a1 g W (Kd.C_below hr0_1 hW) hc0_1 hg
  have hb0 : Below w.heap.size w (w.alloc (.cells #[.int .i64 a0_0, .slice A0_1 l0_1.length c0_1] 28)) := (Below.refl _ w).alloc (Nat.le_refl _) _
  have hI0 := IsS28.new w w A0_1 c0_1 a0_0 l0_1 (Below.refl _ w) hr0_1
  have hcall := hgood _ hb0
  clear hg hr0_1 hgood
  cases g with
  | false =>
    simp only [Bool.false_eq_true, if_false, Option.some.injEq, Prod.mk.injEq] at h
    obtain ⟨rfl, rfl⟩ := h
    clear hI0
    go_enter Tryd.func20, Tryd.ntmps20
    go_wp2_with fail
    refine hcall.mono ?_
    rintro e w1 ⟨rfl, hb1⟩
    clear hcall
    go_wp2
    go_ret2
    exact ⟨_, rfl, Kd.R_nil _ _ _ _ _, hb0.trans (hb1.mono hb0.size)⟩
  | true =>
    rw [if_pos rfl] at h
    split at h
    · rename_i hcond
      obtain ⟨hl, hl1, hz⟩ := hcond
      replace h := Option.bind_eq_some_iff.mp h
      obtain ⟨L, hL, h⟩ := h
      simp only [Option.some.injEq, Prod.mk.injEq] at h
      obtain ⟨rfl, rfl⟩ := h
      have HZ := Aside0.mk hz
      have HI0 := Aside0.mk hI0
      have HL := Aside0.mk hL
      have hLlen := pickO_len hL
      have HLL : Aside0 (L.length ≤ 1048576) := ⟨by simp [swapsT] at hLlen; omega⟩
      clear hz hI0 hL hLlen
      go_enter Tryd.func20, Tryd.ntmps20
      go_wp2_with fail
      refine hcall.mono ?_
      rintro e w1 ⟨rfl, hb1⟩
      have HB1 := Aside0.mk (hb0.trans (hb1.mono hb0.size))
      have HI1 := Aside0.mk (HI0.out.below hb1)
      clear hcall HI0 hb0 hb1
      go_wp2
      go_loopw [6, 7] (fun v6 v7 wr => ∃ (i : Nat) (acc : List ByteArray), 1 ≤ i ∧ i ≤ l0_1.length ∧ v7 = .int .i64 i ∧ Aside0 (Kd.R Kd.string 9 wr w.heap.size (fun k_ => k_ ≠ w.heap.size) v6 acc) ∧ Aside0 (IsS28 w wr w.heap.size a0_0 l0_1) ∧ Aside0 (Below w.heap.size w wr) ∧ Aside0 (pickO (rightO k a0_0 l0_1) a1 ((swapsT a1 l0_1.length).drop (i - 1)) acc = some L)) (fun _ i _ => l0_1.length - (intOf i).toNat)
      case atStart =>
        refine ⟨1, [], by omega, hl1, rfl, ⟨?_⟩, ⟨HI1.out.below ((Below.refl _ w1).alloc (Nat.le_refl _) _)⟩, ⟨HB1.out.alloc HB1.out.size _⟩, ⟨by simpa using HL.out⟩⟩
        have h2 := World.ownsRow_lit (base := w.heap.size) (e := 9) (size := 1) w1 #[] 0 HB1.out.size (by simp [maxLen]) (by simp)
        have hlt := HI1.out.lt
        exact Kd.R_of_own (by simpa [encs] using h2) (by intro k hk; (have e : w1.heap.size = k := (by simpa [Value.ownBlock] using hk)); omega)
      case round =>
        obtain ⟨i, acc, hi1, hi2, rfl, HO, HI, HB, HP⟩ := hrel
        obtain ⟨A1, c1, hblk, hrest⟩ := HI.out
        have hc0 : wr.cell? ⟨w.heap.size, 0, none⟩ = some (.int .i64 a0_0) := by simp [World.cell?, hblk]
        have hc1 : wr.cell? ⟨w.heap.size, 1, none⟩ = some (.slice A1 l0_1.length c1) := by simp [World.cell?, hblk]
        clear hblk hrest
        by_cases hlt : i < l0_1.length
        · have hp := HP.out
          rw [swaps_drop a1 hi1 hlt] at hp
          simp only [pickO] at hp
          have hE : swapT a1 i = swapE a1 ((i : Int) - 1) i ((i : Int) + 1) := rfl
          rw [hE] at hp
          have hzz := HZ.out
          have hi3 : ((i + 1 : Nat) : Int) = (i : Int) + 1 := by omega
          have HN := Aside0.mk (show 1 ≤ (i : Int) ∧ (i : Int) < (l0_1.length : Int) ∧ (l0_1.length : Int) + 1 = (a1.size : Int) ∧ (i : Int) ≤ 1000 by omega)
          have HX : ∃ x : Int, x = (i : Int) := ⟨_, rfl⟩
          clear hE hzz hi3 HP
          generalize hx : (i : Int) = x at hp HN ⊢
          have HXE := Aside0.mk hx
          clear hx HX
          obtain ⟨ji, hji⟩ : ∃ j_ : Int, wrap64 (x - 1) = j_ := ⟨_, rfl⟩
          obtain ⟨jk, hjk⟩ : ∃ j_ : Int, wrap64 (x + 1) = j_ := ⟨_, rfl⟩
          have hje : ji = x - 1 := by have := HN.out; rw [← hji]; unfold wrap64; omega
          have hke : jk = x + 1 := by have := HN.out; rw [← hjk]; unfold wrap64; omega
          have hjiw : (IntKind.i64.wrap (x - 1)) = ji := (i64_w _).trans hji
          have hjkw : (IntKind.i64.wrap (x + 1)) = jk := (i64_w _).trans hjk
          rw [← hje, ← hke] at hp
          have HJ := Aside0.mk hje
          have HK := Aside0.mk hke
          have z0 : decide (x < (l0_1.length : Int)) = true := decide_eq_true HN.out.2.1
          have z1 : (0 ≤ ji) = True := eq_true (by have := HN.out; omega)
          have z2 : (ji ≤ (a1.size : Int)) = True := eq_true (by have := HN.out; omega)
          have z3 : (x ≤ jk) = True := eq_true (by have := HN.out; omega)
          have z4 : (jk ≤ (a1.size : Int)) = True := eq_true (by have := HN.out; omega)
          have z5 : (ji ≤ x) = True := eq_true (by have := HN.out; omega)
          have z6 : (x ≤ (a1.size : Int)) = True := eq_true (by have := HN.out; omega)
          have z7 : (0 ≤ x) = True := eq_true (by have := HN.out; omega)
          have z8 : (0 ≤ jk) = True := eq_true (by have := HN.out; omega)
          have y1 : decide (0 ≤ ji) = true := decide_eq_true (by have := HN.out; omega)
          have y2 : decide (ji ≤ (a1.size : Int)) = true := decide_eq_true (by have := HN.out; omega)
          have y3 : decide (x ≤ jk) = true := decide_eq_true (by have := HN.out; omega)
          have y4 : decide (jk ≤ (a1.size : Int)) = true := decide_eq_true (by have := HN.out; omega)
          have y5 : decide (ji ≤ x) = true := decide_eq_true (by have := HN.out; omega)
          have y6 : decide (x ≤ (a1.size : Int)) = true := decide_eq_true (by have := HN.out; omega)
          have y7 : decide (0 ≤ x) = true := decide_eq_true (by have := HN.out; omega)
          have y8 : decide (0 ≤ jk) = true := decide_eq_true (by have := HN.out; omega)
          have e1 : (a1.extract 0 (ji : Int).toNat).size ≤ 2000 := by rw [ByteArray.size_extract]; have := HN.out; omega
          have e2 : (a1.extract (x : Int).toNat (jk : Int).toNat).size ≤ 2000 := by rw [ByteArray.size_extract]; have := HN.out; omega
          have e3 : (a1.extract (ji : Int).toNat (x : Int).toNat).size ≤ 2000 := by rw [ByteArray.size_extract]; have := HN.out; omega
          have e4 : (a1.extract (jk : Int).toNat a1.size).size ≤ 2000 := by rw [ByteArray.size_extract]; have := HN.out; omega
          have s1 : (9223372036854775807 < (a1.extract 0 (ji : Int).toNat).size + (a1.extract (x : Int).toNat (jk : Int).toNat).size) = False := eq_false (by omega)
          have s2 : (9223372036854775807 < (a1.extract 0 (ji : Int).toNat).size + (a1.extract (x : Int).toNat (jk : Int).toNat).size + (a1.extract (ji : Int).toNat (x : Int).toNat).size) = False := eq_false (by omega)
          have s3 : (9223372036854775807 < (a1.extract 0 (ji : Int).toNat).size + (a1.extract (x : Int).toNat (jk : Int).toNat).size + (a1.extract (ji : Int).toNat (x : Int).toNat).size + (a1.extract (jk : Int).toNat a1.size).size) = False := eq_false (by omega)
          have s4 : (9223372036854775807 < ji.toNat + (jk.toNat - x.toNat)) = False := eq_false (by have := HN.out; omega)
          have s5 : (9223372036854775807 < ji.toNat + (jk.toNat - x.toNat) + (x.toNat - ji.toNat)) = False := eq_false (by have := HN.out; omega)
          have s6 : (9223372036854775807 < ji.toNat + (jk.toNat - x.toNat) + (x.toNat - ji.toNat) + (a1.size - jk.toNat)) = False := eq_false (by have := HN.out; omega)
          clear hje hke e1 e2 e3 e4
          by_cases he : swapE a1 ji x jk = a1
          · rw [if_pos he] at hp
            have HP2 := Aside0.mk hp
            have n1 : ((swapE a1 ji x jk).toList != a1.toList) = false := by rw [he, bne_self_eq_false]
            have n2 : ((swapE a1 ji x jk).toList = a1.toList) = True := eq_true (by rw [he])
            have n4 : ((swapE a1 ji x jk).toList == a1.toList) = true := by rw [he, beq_self_eq_true]
            unfold swapE at n1 n2 n4
            clear hp he
            go_wp2
            go_quiet (fail)
            go_wp2
            go_roundw
            case rel => exact ⟨i + 1, acc, by omega, by omega, by have := HXE.out; have := HK.out; (first | (rw [this]; go_num) | (congr 1; omega) | (simp; omega)), ⟨Kd.R_drewN HO.out _⟩, ⟨HI.out.drewN _⟩, ⟨pw_below_drewN HB.out _⟩, ⟨by rw [Nat.add_sub_cancel]; exact HP2.out⟩⟩
            case measure => simp [intOf]; have := HXE.out; have := HK.out; omega
          · rw [if_neg he] at hp
            obtain ⟨b, hb, hp⟩ := Option.bind_eq_some_iff.mp hp
            unfold rightO at hb
            obtain ⟨⟨v, m2⟩, hw, hb⟩ := Option.bind_eq_some_iff.mp hb
            simp only at hb
            split at hb
            · exact absurd hb (by simp)
            · rename_i hm
              split at hb
              · rename_i hm2
                subst hm2
                simp only [Option.some.injEq] at hb
                have n1 := ne_list he
                have n2 : ((swapE a1 ji x jk).toList = a1.toList) = False := eq_false (bne_iff_ne.mp n1)
                have n4 : ((swapE a1 ji x jk).toList == a1.toList) = false := beq_eq_false_iff_ne.mpr (bne_iff_ne.mp n1)
                have hright := fun (W : World) (hW : Below w.heap.size w W) (hI : IsS28 w W w.heap.size m2 l0_1) => impl_Scheme_right.calls k w.heap.size m2 l0_1 (swapE a1 ji x jk) v w W hI hW hm hw
                unfold swapE at n1 n2 n4 hright
                rw [hb] at hright
                have HP2 := Aside0.mk hp
                clear hb hw hm hp he
                go_wp2
                go_quiet (fail)
                go_wp2_with fail
                refine (hright (wr.drewN nq) (pw_below_drewN HB.out nq) (HI.out.drewN nq)).mono ?_
                rintro e w5 ⟨rfl, hI5, hb5, hk5⟩
                clear hright
                have HO5 := Aside0.mk (Kd.R_keep (Kd.R_drewN HO.out nq) hk5 (fun k hk => hk))
                have HI5 := Aside0.mk hI5
                have HB5 := Aside0.mk hb5
                clear hI5 hb5 hk5
                cases b with
                | false =>
                  go_wp2
                  go_roundw
                  case rel => exact ⟨i + 1, acc, by omega, by omega, by have := HXE.out; have := HK.out; (first | (rw [this]; go_num) | (congr 1; omega) | (simp; omega)), HO5, HI5, HB5, ⟨by rw [Nat.add_sub_cancel]; have := HP2.out; simpa using this⟩⟩
                  case measure => simp [intOf]; have := HXE.out; have := HK.out; omega
                | true =>
                  have HPL := Aside0.mk (pickO_le HP2.out)
                  go_wp2_with (first | ((with_reducible refine gate_builtin (b := .append) (xs := #[.tmp 49, .tmp 51]) rfl ?_); at_builtin; refine Kd.R_append Kd.string (w0 := w) w.heap.size rfl (.tmp 49) (.tmp 51) 32 9 (.string ⟨#[]⟩) 16 rfl Tryd.underlying32 info9 rfl (by decide) (by omega) u6 acc (swapE a1 ji x jk) [.string (swapE a1 ji x jk)] (fun k_ => k_ ≠ w.heap.size) (fun _ => False) rfl rfl ?aP (fun _ hk => hk.elim) ?aF ?aO ?aB ?aS ?aL ?_; (case aP => exact rfl); (case aB => exact HB5.out); (case aF => exact (fun k hk => by have h1 := HI5.out.lt; omega)); (case aO => exact HO5.out); (case aS => exact HB5.out.size); (case aL => have h1 := HPL.out; have h2 := HLL.out; simp at h1; omega); intro v173 w15 ho hb hg hat; have hI15 := Aside0.mk (HI5.out.grown hg (HI5.out.own_ne HO5.out (by decide))); clear hg hat))
                  · go_roundw
                    case rel => exact ⟨i + 1, acc ++ [swapE a1 ji x jk], by omega, by omega, by have := HXE.out; have := HK.out; (first | (rw [this]; go_num) | (congr 1; omega) | (simp; omega)), ⟨ho⟩, hI15, ⟨hb⟩, ⟨by rw [Nat.add_sub_cancel]; have := HP2.out; simpa using this⟩⟩
                    case measure => simp [intOf]; have := HXE.out; have := HK.out; omega
              · exact absurd hb (by simp)
        · have hin : i = l0_1.length := by omega
          subst hin
          have hpe := HP.out
          rw [List.drop_of_length_le (by simp [swapsT])] at hpe
          simp only [pickO, Option.some.injEq] at hpe
          obtain rfl : acc = L := hpe
          have hd : decide ((l0_1.length : Int) < (l0_1.length : Int)) = false := by simp
          have hsort := sorted_string _ _ acc w wr HB.out HO.out HLL.out
          generalize hS : compactB (sortT acc) = S at hsort
          have HS := Aside0.mk hS
          clear hS
          go_wp2_with fail
          refine hsort.mono ?_
          rintro e w5 ⟨v5, rfl, hR5, hb5⟩
          clear hsort
          go_wp2
          go_ret2
          exact ⟨_, rfl, by have e := HS.out; rw [e]; exact hR5, hb5⟩
    · exact absurd h (by simp)

end Go.Proofs.YtepkhpnoibillaaDoor.PA
