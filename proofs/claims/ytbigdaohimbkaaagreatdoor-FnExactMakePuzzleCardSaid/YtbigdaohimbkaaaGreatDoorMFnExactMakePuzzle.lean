/- The plain facts that the law FnExactMakePuzzle's proof leans on, in one text: each part has its own sentence. No condition but bounds. -/
import Derived.Test.YtbigdaohimbkaaaGreatDoorPAx0
import Derived.Test.YtbigdaohimbkaaaGreatDoorPAx1
import Derived.Test.YtbigdaohimbkaaaGreatDoorPAx2
import Derived.Test.YtbigdaohimbkaaaGreatDoorPAx4
import Derived.Test.YtbigdaohimbkaaaGreatDoorPAx5
import Derived.Test.YtbigdaohimbkaaaGreatDoorPAx6
import Derived.Test.YtbigdaohimbkaaaGreatDoorQBase
import Derived.Test.YtbigdaohimbkaaaGreatDoorQIn
import Derived.Test.YtbigdaohimbkaaaGreatDoorQBytes
import Derived.Test.YtbigdaohimbkaaaGreatDoorQTruth
/-! Digits alone, as the program asks for them. No condition but bounds of size. -/
namespace Go.Proofs.YtbigdaohimbkaaaGreatDoor.PA
open Go.RowKit Go.Proofs.YtbigdaohimbkaaaGreatDoorW.PrintWords
set_option linter.unusedVariables false

theorem over_digits (s : ByteArray) (hs : s.size ≤ 140737488355328) : impl_over.f s (⟨#[48, 49, 50, 51, 52, 53, 54, 55, 56, 57]⟩ : ByteArray) = some (s.data.toList.all digB) := by
  unfold impl_over.f
  rw [if_pos ⟨hs, by decide, by decide⟩]
  congr 1
  exact congrArg (fun f => s.data.toList.all f) (funext contains_dig)
end Go.Proofs.YtbigdaohimbkaaaGreatDoor.PA

/-! Texts of digits, as the program asks for them. No condition but bounds of size. -/
namespace Go.Proofs.YtbigdaohimbkaaaGreatDoor.PA
open Go.RowKit Go.Proofs.YtbigdaohimbkaaaGreatDoorW.PrintWords
set_option linter.unusedVariables false

theorem isDigits_f (s : ByteArray) (lo hi : Int) (hs : s.size ≤ 140737488355328) : impl_isDigits.f s lo hi = some (digitsB s lo hi) := by
  unfold impl_isDigits.f digitsB
  rw [in_f, Option.bind_some]
  cases decide (lo ≤ (s.size : Int)) && decide ((s.size : Int) ≤ hi) with
  | true => rw [if_pos rfl, over_digits s hs]; simp
  | false => rw [if_neg (by simp)]; simp
end Go.Proofs.YtbigdaohimbkaaaGreatDoor.PA

/-! Texts of digits, as the reference and the program ask for them: one Bool for both. No condition but bounds of size. -/
namespace Go.Proofs.YtbigdaohimbkaaaGreatDoor.PA
open Go.RowKit Go.Proofs.YtbigdaohimbkaaaGreatDoorW.PrintWords
set_option linter.unusedVariables false

theorem piDigits_l0 (s : ByteArray) (hs : s.size ≤ 4611686018427387903) : ∀ (d i : Nat), i + d = s.size → Ev (fun k => spec_piDigits.l0 k s (i : Int)) ((s.data.toList.drop i).all digB)
  | 0, i, h => by
    refine Ev.step (fun k => rfl) (Ev.neg (by omega) (Ev.val ?_))
    rw [List.drop_of_length_le (by rw [← size_data]; omega)]; rfl
  | d + 1, i, h => by
    have hi : i < s.data.toList.length := by rw [← size_data]; omega
    refine Ev.step (fun k => rfl) (Ev.pos (by omega) (Ev.pos (by omega) ?_))
    rw [bt_nat (by omega), List.drop_eq_getElem_cons hi, List.all_cons, wrap_nat (by omega)]
    unfold digB
    refine Ev.ite (fun e => Ev.val ?_) (fun e => Ev.ite (fun e2 => Ev.val ?_) (fun e2 => ?_))
    · simp only [show ¬ 48 ≤ (s.data.toList[i]).toNat by omega, decide_false, Bool.false_and]
    · simp only [show ¬ (s.data.toList[i]).toNat ≤ 57 by omega, decide_false, Bool.and_false, Bool.false_and]
    · simp only [show 48 ≤ (s.data.toList[i]).toNat by omega, show (s.data.toList[i]).toNat ≤ 57 by omega, decide_true, Bool.true_and]
      exact piDigits_l0 s hs d (i + 1) (by omega)
theorem piDigits_ev (s : ByteArray) (lo hi : Int) (hs : s.size ≤ 4611686018427387903) : Ev (fun k => spec_piDigits.f k s lo hi) (digitsB s lo hi) := by
  unfold spec_piDigits.f digitsB
  refine Ev.vbind (l1In_f _ _ _) ?_
  cases decide (lo ≤ (s.size : Int)) && decide ((s.size : Int) ≤ hi) with
  | true => exact Ev.pos rfl (by simpa using piDigits_l0 s hs s.size 0 (by omega))
  | false => exact Ev.neg (by simp) (Ev.val (by simp))
end Go.Proofs.YtbigdaohimbkaaaGreatDoor.PA

/-! What a clue tells of a hidden number, of all such numbers. -/
namespace Go.Proofs.YtbigdaohimbkaaaGreatDoor.PA
open Go.RowKit Go.Proofs.YtbigdaohimbkaaaGreatDoorW.PrintWords
set_option linter.unusedVariables false

/-- a kind of clue and its place or divider -/
def pairOk (z : Nat) (k a : Int) : Prop := (k = 0 ∧ a = 0) ∨ (k = 1 ∧ 0 ≤ a ∧ a < z) ∨ (k = 2 ∧ a = 0) ∨ (k = 3 ∧ a = 0) ∨ (k = 4 ∧ 2 ≤ a ∧ a ≤ 9) ∨ (k = 5 ∧ a = 0)
theorem dig_num {b : UInt8} (h : digB b = true) : ∃ n, n < 10 ∧ b = UInt8.ofNat (48 + n) := by
  have h' : 48 ≤ b.toNat ∧ b.toNat ≤ 57 := by unfold digB at h; simpa using h
  refine ⟨b.toNat - 48, by omega, ?_⟩
  rw [show 48 + (b.toNat - 48) = b.toNat by omega]
  exact (UInt8.ofNat_toNat).symm
theorem num_2 {x : ByteArray} (hz : x.size = 2) (h : x.data.toList.all digB = true) : ∃ n : Fin 100, x = t2 n.val := by
  have hz' : x.data.toList.length = 2 := hz
  obtain ⟨a, b, hl⟩ : ∃ a b, x.data.toList = [a, b] := by
    match hm : x.data.toList, hz' with
    | [a, b], _ => exact ⟨a, b, rfl⟩
  rw [hl] at h
  simp only [List.all_cons, List.all_nil, Bool.and_true, Bool.and_eq_true] at h
  obtain ⟨m, hm, rfl⟩ := dig_num h.1
  obtain ⟨n, hn, rfl⟩ := dig_num h.2
  refine ⟨⟨10 * m + n, by omega⟩, ba_ext ?_⟩
  rw [hl]
  show _ = [_, _]
  rw [show (10 * m + n) / 10 = m by omega, show (10 * m + n) % 10 = n by omega]
theorem num_3 {x : ByteArray} (hz : x.size = 3) (h : x.data.toList.all digB = true) : ∃ n : Fin 1000, x = t3 n.val := by
  have hz' : x.data.toList.length = 3 := hz
  obtain ⟨a, b, c, hl⟩ : ∃ a b c, x.data.toList = [a, b, c] := by
    match hm : x.data.toList, hz' with
    | [a, b, c], _ => exact ⟨a, b, c, rfl⟩
  rw [hl] at h
  simp only [List.all_cons, List.all_nil, Bool.and_true, Bool.and_eq_true] at h
  obtain ⟨m, hm, rfl⟩ := dig_num h.1
  obtain ⟨n, hn, rfl⟩ := dig_num h.2.1
  obtain ⟨o, ho, rfl⟩ := dig_num h.2.2
  refine ⟨⟨100 * m + 10 * n + o, by omega⟩, ba_ext ?_⟩
  rw [hl]
  show _ = [_, _, _]
  rw [show (100 * m + 10 * n + o) / 100 = m by omega, show (100 * m + 10 * n + o) / 10 % 10 = n by omega, show (100 * m + 10 * n + o) % 10 = o by omega]
theorem truth_ev {x : ByteArray} {k a : Int} (hx : digitsB x 2 3 = true) (hc : pairOk x.size k a) : Ev (fun n => spec_pzValue.f n k a x) (valV k a x) ∧ Ev (fun n => impl_truth.f n k a x) (valV k a x) := by
  unfold digitsB at hx
  simp only [Bool.and_eq_true, decide_eq_true_eq] at hx
  have hz : x.size = 2 ∨ x.size = 3 := by omega
  rcases hz with hz | hz
  · obtain ⟨n, rfl⟩ := num_2 hz hx.2
    rw [hz] at hc
    rcases hc with ⟨rfl, rfl⟩ | ⟨rfl, h0, h1⟩ | ⟨rfl, rfl⟩ | ⟨rfl, rfl⟩ | ⟨rfl, h0, h1⟩ | ⟨rfl, rfl⟩
    · exact okV_at (k0_2 n)
    · have := k1_2 ⟨a.toNat, by omega⟩ n
      rw [show (((⟨a.toNat, by omega⟩ : Fin 2).val : Nat) : Int) = a by simp; omega] at this
      exact okV_at this
    · exact okV_at (k2_2 n)
    · exact okW_at (k3_2 n)
    · have := k4_2 ⟨(a - 2).toNat, by omega⟩ n
      rw [show (((⟨(a - 2).toNat, by omega⟩ : Fin 8).val : Nat) : Int) + 2 = a by simp; omega] at this
      exact okV_at this
    · exact okV_at (k5_2 n)
  · obtain ⟨n, rfl⟩ := num_3 hz hx.2
    rw [hz] at hc
    rcases hc with ⟨rfl, rfl⟩ | ⟨rfl, h0, h1⟩ | ⟨rfl, rfl⟩ | ⟨rfl, rfl⟩ | ⟨rfl, h0, h1⟩ | ⟨rfl, rfl⟩
    · exact okV_at (k0_3 n)
    · have := k1_3 ⟨a.toNat, by omega⟩ n
      rw [show (((⟨a.toNat, by omega⟩ : Fin 3).val : Nat) : Int) = a by simp; omega] at this
      exact okV_at this
    · exact okV_at (k2_3 n)
    · exact okW_at (k3_3 n)
    · have := k4_3 ⟨(a - 2).toNat, by omega⟩ n
      rw [show (((⟨(a - 2).toNat, by omega⟩ : Fin 8).val : Nat) : Int) + 2 = a by simp; omega] at this
      exact okV_at this
    · exact okV_at (k5_3 n)
theorem pzHidden_ev (x : ByteArray) (hs : x.size ≤ 4611686018427387903) : Ev (fun k => spec_pzHidden.f k x) (digitsB x 2 3) := by
  unfold spec_pzHidden.f
  exact Ev.bind (piDigits_ev x 2 3 hs) (Ev.val rfl)
theorem isHidden_f (x : ByteArray) (hs : x.size ≤ 140737488355328) : impl_isHidden.f x = some (digitsB x 2 3) := by
  unfold impl_isHidden.f
  rw [isDigits_f x 2 3 hs]
  rfl
end Go.Proofs.YtbigdaohimbkaaaGreatDoor.PA

/-! Puzzles: the reference and the program ask for the same. No condition but bounds. -/
namespace Go.Proofs.YtbigdaohimbkaaaGreatDoor.PA
open Go.RowKit Go.Proofs.YtbigdaohimbkaaaGreatDoorW.PrintWords
set_option linter.unusedVariables false

theorem rdT_nat {l : List S26} {i : Nat} (h : i < l.length) : rd_T26 l (i : Int) = l[i] := by simp [rd_T26, h]
end Go.Proofs.YtbigdaohimbkaaaGreatDoor.PA

/-! Puzzles made of a number and a seed: the reference and the program make the same. -/
namespace Go.Proofs.YtbigdaohimbkaaaGreatDoor.PA
open Go.RowKit Go.Proofs.YtbigdaohimbkaaaGreatDoorW.PrintWords
set_option linter.unusedVariables false

/-- the next number of the row -/
def nxt (z : Int) : Int := Int.tmod (wrap64 ((wrap64 (z * 257)) + 1531)) 10007
theorem nxt_in {z : Int} (h0 : 0 ≤ z) (h1 : z < 10007) : 0 ≤ nxt z ∧ nxt z < 10007 := by
  unfold nxt
  rw [wrap_in (n := z * 257) (by omega) (by omega), wrap_in (by omega) (by omega), Int.tmod_eq_emod_of_nonneg (by omega)]
  omega
theorem pzNext_f (z : Int) : spec_pzNext.f z = some (nxt z) := by unfold spec_pzNext.f nxt; rw [Int.mul_comm]
theorem make_l0 (x : ByteArray) (hx : digitsB x 2 3 = true) (N : Nat) (hN : N ≤ 6) : ∀ (n i : Nat) (z : Int) (acc : List S26), i + n = N → acc.length = i → 0 ≤ z → z < 10007 →
    ∃ r : Int × List S26 × Bool, Ev (fun k => spec_MakePuzzle.l0 k x (n : Int) z (x.size : Int) acc) r ∧ Ev (fun k => impl_MakePuzzle.l0 k x (N : Int) (i : Int) z (x.size : Int) acc) r ∧ r.2.1.length ≤ N
  | 0, i, z, acc, h, ha, h0, h1 =>
    ⟨((x.size : Int), acc, true), Ev.step (fun k => by rw [spec_MakePuzzle.l0]) (Ev.neg (by omega) (Ev.val rfl)), Ev.step (fun k => by rw [impl_MakePuzzle.l0]) (Ev.neg (by omega) (Ev.val rfl)), by show acc.length ≤ N; omega⟩
  | n + 1, i, z, acc, h, ha, h0, h1 => by
    obtain ⟨z1, hz1⟩ : ∃ z1, z1 = nxt z := ⟨_, rfl⟩
    obtain ⟨z2, hz2⟩ : ∃ z2, z2 = nxt z1 := ⟨_, rfl⟩
    have b1 := nxt_in h0 h1
    rw [← hz1] at b1
    have b2 := nxt_in b1.1 b1.2
    rw [← hz2] at b2
    obtain ⟨q, hq⟩ : ∃ q, q = Int.tmod z1 6 := ⟨_, rfl⟩
    have bq : 0 ≤ q ∧ q < 6 := by rw [hq, Int.tmod_eq_emod_of_nonneg (by omega)]; omega
    have hsz : x.size = 2 ∨ x.size = 3 := by unfold digitsB at hx; simp at hx; omega
    have hz : ¬ (x.size : Int) = 0 := by omega
    have hnz : Int.tmod (wrap64 ((wrap64 (z * 257)) + 1531)) 10007 = z1 := hz1.symm
    have hnz1 : Int.tmod (wrap64 ((wrap64 (z1 * 257)) + 1531)) 10007 = z2 := hz2.symm
    have hlen : acc.length < 5864062014805 := by omega
    have hw1 : wrap64 (((n + 1 : Nat) : Int) - 1) = (n : Int) := by unfold wrap64; omega
    have hw2 : wrap64 ((i : Int) + 1) = ((i + 1 : Nat) : Int) := wrap_nat (by omega)
    have p1 : spec_pzNext.f z = some z1 := by rw [pzNext_f, hz1]
    have p2 : spec_pzNext.f z1 = some z2 := by rw [pzNext_f, hz2]
    have spec : ∀ a v r, Ev (fun k => spec_pzOf.f k q z2 x) (q, a, v) → Ev (fun k => spec_MakePuzzle.l0 k x (n : Int) z2 (x.size : Int) (acc ++ [⟨q, a, v⟩])) r → Ev (fun k => spec_MakePuzzle.l0 k x ((n + 1 : Nat) : Int) z (x.size : Int) acc) r := by
      intro a v r ho hr
      refine Ev.step (fun k => by rw [spec_MakePuzzle.l0]) ?_
      refine Ev.pos (by omega) (Ev.vbind p1 (Ev.vbind p2 ?_))
      rw [← hq, hw1]
      exact Ev.bind ho (Ev.pos hlen hr)
    by_cases k1 : q = 1
    · have ba : 0 ≤ Int.tmod z2 (x.size : Int) ∧ Int.tmod z2 (x.size : Int) < (x.size : Int) := by
        rw [Int.tmod_eq_emod_of_nonneg (by omega)]
        exact ⟨Int.emod_nonneg _ hz, Int.emod_lt_of_pos _ (by omega)⟩
      obtain ⟨t1, t2⟩ := truth_ev (k := q) (a := Int.tmod z2 (x.size : Int)) hx (.inr (.inl ⟨k1, ba.1, ba.2⟩))
      obtain ⟨r, r1, r2, r3⟩ := make_l0 x hx N hN n (i + 1) z2 (acc ++ [⟨q, Int.tmod z2 (x.size : Int), valV q (Int.tmod z2 (x.size : Int)) x⟩]) (by omega) (by simp [ha]) b2.1 b2.2
      refine ⟨r, spec _ _ r ?_ r1, Ev.step (fun k => by rw [impl_MakePuzzle.l0]) ?_, r3⟩
      · unfold spec_pzOf.f
        exact Ev.pos k1 (Ev.neg hz (Ev.bind t1 (Ev.val rfl)))
      · simp only [hnz, hnz1, ← hq, hw2]
        exact Ev.pos (by omega) (Ev.pos k1 (Ev.neg hz (Ev.bind t2 (Ev.pos hlen r2))))
    · by_cases k4 : q = 4
      · have ba : 2 ≤ wrap64 ((Int.tmod z2 8) + 2) ∧ wrap64 ((Int.tmod z2 8) + 2) ≤ 9 := by
          rw [Int.tmod_eq_emod_of_nonneg (by omega), wrap_in (by omega) (by omega)]
          omega
        obtain ⟨t1, t2⟩ := truth_ev (k := q) (a := wrap64 ((Int.tmod z2 8) + 2)) hx (.inr (.inr (.inr (.inr (.inl ⟨k4, ba.1, ba.2⟩)))))
        obtain ⟨r, r1, r2, r3⟩ := make_l0 x hx N hN n (i + 1) z2 (acc ++ [⟨q, wrap64 ((Int.tmod z2 8) + 2), valV q (wrap64 ((Int.tmod z2 8) + 2)) x⟩]) (by omega) (by simp [ha]) b2.1 b2.2
        refine ⟨r, spec _ _ r ?_ r1, Ev.step (fun k => by rw [impl_MakePuzzle.l0]) ?_, r3⟩
        · unfold spec_pzOf.f
          exact Ev.neg k1 (Ev.pos k4 (Ev.bind t1 (Ev.val rfl)))
        · simp only [hnz, hnz1, ← hq, hw2]
          exact Ev.pos (by omega) (Ev.neg k1 (Ev.pos k4 (Ev.bind t2 (Ev.pos hlen r2))))
      · obtain ⟨t1, t2⟩ := truth_ev (k := q) (a := 0) hx (by unfold pairOk; omega)
        obtain ⟨r, r1, r2, r3⟩ := make_l0 x hx N hN n (i + 1) z2 (acc ++ [⟨q, 0, valV q 0 x⟩]) (by omega) (by simp [ha]) b2.1 b2.2
        refine ⟨r, spec _ _ r ?_ r1, Ev.step (fun k => by rw [impl_MakePuzzle.l0]) ?_, r3⟩
        · unfold spec_pzOf.f
          exact Ev.neg k1 (Ev.neg k4 (Ev.bind t1 (Ev.val rfl)))
        · simp only [hnz, hnz1, ← hq, hw2]
          exact Ev.pos (by omega) (Ev.neg k1 (Ev.neg k4 (Ev.bind t2 (Ev.pos hlen r2))))
theorem make_both (x : ByteArray) (c s : Int) (hs : x.size ≤ 1048576) : ∃ r : Int × List S26 × Bool, Ev (fun k => spec_MakePuzzle.f k x c s) r ∧ Ev (fun k => impl_MakePuzzle.f k x c s) r ∧ r.2.1.length ≤ 6 := by
  have h1 := pzHidden_ev x (by omega)
  have h2 := isHidden_f x (by omega)
  have sj : Ev (fun k => spec_MakePuzzle.j0 k x c s true) (0, [], false) := Ev.step (fun k => by rw [spec_MakePuzzle.j0]) (Ev.pos rfl (Ev.val rfl))
  have ij : Ev (fun k => impl_MakePuzzle.j0 k x c true s) (0, [], false) := Ev.step (fun k => by rw [impl_MakePuzzle.j0]) (Ev.pos rfl (Ev.val rfl))
  unfold spec_MakePuzzle.f impl_MakePuzzle.f
  cases hx : digitsB x 2 3 with
  | false =>
    rw [hx] at h1 h2
    exact ⟨(0, [], false), Ev.bind h1 (Ev.neg (by simp) sj), Ev.vbind h2 (Ev.neg (by simp) ij), by simp⟩
  | true =>
    rw [hx] at h1 h2
    cases hc : (decide (0 ≤ c) && decide (c ≤ 6)) with
    | false =>
      have e1 := (l1In_f c 0 6).trans (congrArg some hc)
      have e2 := (in_f c 0 6).trans (congrArg some hc)
      exact ⟨(0, [], false), Ev.bind h1 (Ev.pos rfl (Ev.vbind e1 (Ev.neg (by simp) sj))), Ev.vbind h2 (Ev.pos rfl (Ev.vbind e2 (Ev.neg (by simp) ij))), by simp⟩
    | true =>
      have e1 := (l1In_f c 0 6).trans (congrArg some hc)
      have e2 := (in_f c 0 6).trans (congrArg some hc)
      cases hd : (decide (0 ≤ s) && decide (s ≤ 9999)) with
      | false =>
        have d1 := (l1In_f s 0 9999).trans (congrArg some hd)
        have d2 := (in_f s 0 9999).trans (congrArg some hd)
        exact ⟨(0, [], false), Ev.bind h1 (Ev.pos rfl (Ev.vbind e1 (Ev.pos rfl (Ev.vbind d1 sj)))), Ev.vbind h2 (Ev.pos rfl (Ev.vbind e2 (Ev.pos rfl (Ev.vbind d2 ij)))), by simp⟩
      | true =>
        have d1 := (l1In_f s 0 9999).trans (congrArg some hd)
        have d2 := (in_f s 0 9999).trans (congrArg some hd)
        simp only [Bool.and_eq_true, decide_eq_true_eq] at hc hd
        obtain ⟨r, r1, r2, r3⟩ := make_l0 x hx c.toNat (by omega) c.toNat 0 s [] (by omega) rfl hd.1 (by omega)
        rw [show ((c.toNat : Nat) : Int) = c by omega] at r1 r2
        refine ⟨r, Ev.bind h1 (Ev.pos rfl (Ev.vbind e1 (Ev.pos rfl (Ev.vbind d1 ?_)))), Ev.vbind h2 (Ev.pos rfl (Ev.vbind e2 (Ev.pos rfl (Ev.vbind d2 ?_)))), by omega⟩
        · refine Ev.step (fun k => by rw [spec_MakePuzzle.j0]) ?_
          exact Ev.neg (by simp) r1
        · refine Ev.step (fun k => by rw [impl_MakePuzzle.j0]) ?_
          exact Ev.neg (by simp) r2
end Go.Proofs.YtbigdaohimbkaaaGreatDoor.PA

/-! Equality of puzzles, the laws' own: a puzzle equals itself. No condition but bounds. -/
namespace Go.Proofs.YtbigdaohimbkaaaGreatDoor.PA
open Go.RowKit Go.Proofs.YtbigdaohimbkaaaGreatDoorW.PrintWords
set_option linter.unusedVariables false

theorem eqClueS_l0 (a : List S26) (hl : a.length ≤ 4611686018427387903) : ∀ (d i : Nat), i + d = a.length → Ev (fun k => laws_eqClueS.l0 k a a (i : Int)) true
  | 0, i, h => by
    refine Ev.step (fun k => by rw [laws_eqClueS.l0]) ?_
    exact Ev.neg (by omega) (Ev.val rfl)
  | d + 1, i, h => by
    refine Ev.step (fun k => by rw [laws_eqClueS.l0]) ?_
    refine Ev.pos (by omega) (Ev.pos (by omega) (Ev.pos (by omega) ?_))
    rw [wrap_nat (by omega)]
    refine Ev.vbind (a := true) (by unfold laws_eqClue.f; rw [if_pos rfl, if_pos rfl, if_pos rfl]) (Ev.pos rfl ?_)
    exact eqClueS_l0 a hl d (i + 1) (by omega)
theorem eqPuzzle_ev {d : Int} {a : List S26} (hl : a.length ≤ 1048576) : Ev (fun k => laws_eqPuzzle.f k d a d a) true := by
  unfold laws_eqPuzzle.f laws_eqClueS.f
  exact Ev.pos rfl (Ev.bind (Ev.pos rfl (eqClueS_l0 a (by omega) a.length 0 (by omega))) (Ev.pos rfl (Ev.val rfl)))
end Go.Proofs.YtbigdaohimbkaaaGreatDoor.PA

/-! The laws' marks on rows of clues: marking a row writes numbers that the holder then finds. No condition but bounds. -/
namespace Go.Proofs.YtbigdaohimbkaaaGreatDoor.PA
open Go.RowKit Go.Proofs.YtbigdaohimbkaaaGreatDoorW.PrintWords
set_option linter.unusedVariables false

def mkC (n : Nat) : S26 := ⟨(n : Int), ((n + 1 : Nat) : Int), ((n + 2 : Nat) : Int)⟩
def marksC (n m : Nat) : List S26 := (List.range m).map (fun j => mkC (n + 3 * j))
theorem marksC_len (n m : Nat) : (marksC n m).length = m := by simp [marksC]
theorem rdT_set {l : List S26} {i : Nat} (h : i < l.length) (v : S26) : rd_T26 (l.set i v) (i : Int) = v := by
  rw [rdT_nat (by simpa using h), List.getElem_set_self]
theorem markC_l0 (n m : Nat) (hn : n + 3 * m ≤ 1099511627776) : ∀ (d i : Nat) (x : List S26), i + d = m → x.length = m → x.take i = (marksC n m).take i → Ev (fun k => laws_markClueS.l0 k x ((n + 3 * i : Nat) : Int) (i : Int)) (((n + 3 * m : Nat) : Int), marksC n m)
  | 0, i, x, h, hx, ht => by
    refine Ev.step (fun k => by rw [laws_markClueS.l0]) ?_
    refine Ev.neg (by omega) (Ev.val ?_)
    rw [List.take_of_length_le (by omega), List.take_of_length_le (by rw [marksC_len]; omega)] at ht
    rw [ht, show n + 3 * i = n + 3 * m by omega]
  | d + 1, i, x, h, hx, ht => by
    refine Ev.step (fun k => by rw [laws_markClueS.l0]) ?_
    refine Ev.pos (by omega) (Ev.pos (by omega) ?_)
    rw [wrap_nat (show n + 3 * i < 4611686018427387904 by omega), wrap_nat (show n + 3 * i + 1 < 4611686018427387904 by omega), wrap_nat (show n + 3 * i + 1 + 1 < 4611686018427387904 by omega), wrap_nat (show i < 4611686018427387904 by omega), Int.toNat_natCast]
    have hi : i < x.length := by omega
    refine Ev.vbind rfl (Ev.vbind rfl ?_)
    have hs : ∀ v : S26, rd_T26 (x.set i v) (i : Int) = v := fun v => rdT_set hi v
    simp only [List.set_set, hs]
    refine markC_l0 n m hn d (i + 1) _ (by omega) (by simpa using hx) ?_
    rw [take_succ_get (by simp; omega), take_succ_get (show i < (marksC n m).length by rw [marksC_len]; omega), List.take_set_of_le (Nat.le_refl _), ht]
    simp [marksC, mkC]
    omega
theorem markClueS_ev (l : List S26) (n : Nat) (hn : n + 3 * l.length ≤ 1099511627776) : Ev (fun k => laws_markClueS.f k l (n : Int)) (((n + 3 * l.length : Nat) : Int), marksC n l.length) :=
  markC_l0 n l.length hn l.length 0 l (by omega) rfl (by simp)
theorem markPuzzle_ev (d : Int) (l : List S26) (n : Nat) (hn : n + 3 * l.length ≤ 1099511627776) : Ev (fun k => laws_markPuzzle.f k d l (n : Int)) (((n + 3 * l.length : Nat) : Int), marksC n l.length) := by
  unfold laws_markPuzzle.f
  exact Ev.bind (markClueS_ev l n hn) (Ev.val rfl)
theorem heldC_l0 (n m : Nat) (hn : n + 3 * m ≤ 1099511627776) : ∀ (d i : Nat), i + d = m → Ev (fun k => laws_heldClueS.l0 k (marksC n m) ((n + 3 * i : Nat) : Int) (i : Int)) ((n + 3 * m : Nat) : Int)
  | 0, i, h => by
    refine Ev.step (fun k => by rw [laws_heldClueS.l0]) ?_
    refine Ev.neg (by rw [marksC_len]; omega) (Ev.val ?_)
    rw [show n + 3 * i = n + 3 * m by omega]
  | d + 1, i, h => by
    have hi : i < (marksC n m).length := by rw [marksC_len]; omega
    have hg : rd_T26 (marksC n m) (i : Int) = mkC (n + 3 * i) := by rw [rdT_nat hi]; simp [marksC]
    have ih := heldC_l0 n m hn d (i + 1) (by omega)
    refine Ev.step (fun k => by rw [laws_heldClueS.l0]) ?_
    rw [hg, wrap_nat (show n + 3 * i < 4611686018427387904 by omega), wrap_nat (show n + 3 * i + 1 < 4611686018427387904 by omega), wrap_nat (show n + 3 * i + 1 + 1 < 4611686018427387904 by omega), wrap_nat (show i < 4611686018427387904 by omega)]
    exact Ev.pos (by rw [marksC_len]; omega) (Ev.pos (by omega) (Ev.pos rfl (Ev.pos rfl (Ev.pos rfl ih))))
theorem heldClueS_ev (n m : Nat) (hn : n + 3 * m ≤ 1099511627776) : Ev (fun k => laws_heldClueS.f k (marksC n m) (n : Int)) ((n + 3 * m : Nat) : Int) :=
  heldC_l0 n m hn m 0 (by omega)
theorem heldPuzzle_ev (d : Int) (n m : Nat) (hn : n + 3 * m ≤ 1099511627776) : Ev (fun k => laws_heldPuzzle.f k d (marksC n m) (n : Int)) ((n + 3 * m : Nat) : Int) := by
  unfold laws_heldPuzzle.f
  exact Ev.bind (heldClueS_ev n m hn) (Ev.neg (by omega) (Ev.val rfl))
end Go.Proofs.YtbigdaohimbkaaaGreatDoor.PA
