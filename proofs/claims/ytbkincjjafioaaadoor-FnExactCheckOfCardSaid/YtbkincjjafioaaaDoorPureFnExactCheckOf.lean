/- It is proved that the law FnExactCheckOf, as a plain function, returns true: the program's check is the reference's. No condition. -/
import Derived.Test.YtbkincjjafioaaaDoorPAx12
import Derived.Test.YtbkincjjafioaaaDoorQSum
namespace Go.Proofs.YtbkincjjafioaaaDoor.Pure
open Go.RowKit Go.Proofs.YtbkincjjafioaaaDoor.PA Go.Proofs.YtbkincjjafioaaaDoorW.PrintWords Go.Proofs.YtbkincjjafioaaaDoorW.PrintLast
/-- THE ONE PURE STATEMENT of the law. -/
def laws_FnExactCheckOf.Said : Prop := ∀ (a0 : S31) (a1 : ByteArray), (((Lit.int .i64 a0.f0).wf = true) ∧ (a0.f1.length ≤ maxLen ∧ ∀ y ∈ a0.f1, (Lit.int .i64 y).wf = true)) → (a1.size ≤ maxLen) → ∃ k, laws_FnExactCheckOf.f k (a0.f0) (a0.f1) a1 = some true
theorem key (m : Int) (l : List Int) (s : ByteArray) (h1 : l.length ≤ 1048576) (h2 : s.size ≤ 1048576) :
    ∃ r : ByteArray × Bool, Ev (fun k => spec_CheckOf.f k m l s) r ∧ Ev (fun k => impl_CheckOf.f k m l s) r := by
  have hg := ckGood_ev m l h1
  have hi := isScheme_f m l h1
  have no : ∀ b, b = true → Ev (fun k => spec_CheckOf.j0 k s b m l) (⟨#[]⟩, false) := by
    intro b hb
    refine Ev.step (fun k => by rw [spec_CheckOf.j0]) ?_
    exact Ev.pos hb (Ev.val rfl)
  unfold spec_CheckOf.f impl_CheckOf.f
  cases g : schB m l with
  | false =>
    rw [g] at hg hi
    exact ⟨(⟨#[]⟩, false), Ev.bind hg (Ev.neg (by simp) (no _ rfl)), Ev.vbind hi (Ev.neg (by simp) (Ev.val rfl))⟩
  | true =>
    rw [g] at hg hi
    obtain ⟨m0, m1, l0, l1, hw⟩ := sch_facts g
    have hd := isDigits_f s (l.length : Int) (l.length : Int) (by omega)
    have hcd := ckDigits_l0 s (by omega) s.size 0 (by omega)
    rw [List.drop_zero] at hcd
    by_cases hz : s.size = l.length
    · have hd2 : digitsB s (l.length : Int) (l.length : Int) = s.data.toList.all digB := by
        unfold digitsB
        rw [hz]; simp
      rw [hd2] at hd
      cases ha : s.data.toList.all digB with
      | false =>
        rw [ha] at hd hcd
        exact ⟨(⟨#[]⟩, false), Ev.bind hg (Ev.pos rfl (Ev.pos (by omega) (Ev.bind (g := fun k => spec_ckDigits.f k s) hcd (no _ rfl)))), Ev.vbind hi (Ev.pos rfl (Ev.vbind hd (Ev.neg (by simp) (Ev.val rfl))))⟩
      | true =>
        rw [ha] at hd hcd
        obtain ⟨v, v0, v1, e1, e2⟩ := sum_ev l l1 hw s s hz (by omega) (fun i hi => rfl) m
        have hc : ∃ c : Nat, c ≤ 12 ∧ Int.tmod (wrap64 (m - Int.tmod v m)) m = (c : Int) := by
          have t1 : 0 ≤ Int.tmod v m ∧ Int.tmod v m < m := ⟨Int.tmod_nonneg _ v0, Int.tmod_lt_of_pos _ (by omega)⟩
          rw [wrap_in (by omega) (by omega)]
          have t2 : 0 ≤ Int.tmod (m - Int.tmod v m) m ∧ Int.tmod (m - Int.tmod v m) m < m := ⟨Int.tmod_nonneg _ (by omega), Int.tmod_lt_of_pos _ (by omega)⟩
          exact ⟨(Int.tmod (m - Int.tmod v m) m).toNat, by omega, by omega⟩
        obtain ⟨c, hc, ec⟩ := hc
        have hk : impl_Scheme_check.f m l v = some ((c : Int), m) := by
          unfold impl_Scheme_check.f
          rw [if_neg (by omega), ec]
        have sp : ∀ r, Ev (fun k => if (c : Int) > 10 then (some ((⟨#[]⟩ : ByteArray), false)) else (if 0 ≤ (c : Int) then (if (c : Int) ≤ wrap64 ((c : Int) + 1) then (if wrap64 ((c : Int) + 1) ≤ 11 then (some ((⟨#[48, 49, 50, 51, 52, 53, 54, 55, 56, 57, 88]⟩ : ByteArray).extract (c : Int).toNat (wrap64 ((c : Int) + 1)).toNat, true)) else (none)) else (none)) else (none))) r → Ev (fun k => spec_CheckOf.j0 k s (!true) m l) r := by
          intro r hr
          refine Ev.step (fun k => by rw [spec_CheckOf.j0]) ?_
          refine Ev.neg (by simp) (Ev.bind e1 (Ev.neg (by omega) ?_))
          rw [ec]
          exact hr
        by_cases h10 : (c : Int) > 10
        · exact ⟨(⟨#[]⟩, false), Ev.bind hg (Ev.pos rfl (Ev.pos (by omega) (Ev.bind (g := fun k => spec_ckDigits.f k s) hcd (sp _ (Ev.pos h10 (Ev.val rfl)))))), Ev.vbind hi (Ev.pos rfl (Ev.vbind hd (Ev.pos rfl (Ev.bind e2 (Ev.vbind hk (Ev.pos h10 (Ev.val rfl)))))))⟩
        · have hw1 := wrap_nat (i := c) (by omega)
          refine ⟨((⟨#[48, 49, 50, 51, 52, 53, 54, 55, 56, 57, 88]⟩ : ByteArray).extract (c : Int).toNat (wrap64 ((c : Int) + 1)).toNat, true), Ev.bind hg (Ev.pos rfl (Ev.pos (by omega) (Ev.bind (g := fun k => spec_ckDigits.f k s) hcd (sp _ (Ev.neg h10 (Ev.pos (by omega) (Ev.pos (by rw [hw1]; omega) (Ev.pos (by rw [hw1]; omega) (Ev.val rfl))))))))), Ev.vbind hi (Ev.pos rfl (Ev.vbind hd (Ev.pos rfl (Ev.bind e2 (Ev.vbind hk (Ev.neg h10 (Ev.pos (by simp) (Ev.val rfl))))))))⟩
    · have hd2 : digitsB s (l.length : Int) (l.length : Int) = false := by
        unfold digitsB
        by_cases h : (l.length : Int) ≤ (s.size : Int)
        · simp [show ¬ (s.size : Int) ≤ (l.length : Int) by omega]
        · simp [h]
      rw [hd2] at hd
      exact ⟨(⟨#[]⟩, false), Ev.bind hg (Ev.pos rfl (Ev.neg (by omega) (no _ rfl))), Ev.vbind hi (Ev.pos rfl (Ev.vbind hd (Ev.neg (by simp) (Ev.val rfl))))⟩
theorem FnExactCheckOf : laws_FnExactCheckOf.Said := by
  intro p s ⟨_, hl, _⟩ _
  refine Ev.rounds ?_
  generalize p.f0 = m
  generalize p.f1 = l at hl ⊢
  obtain ⟨v, hv, hc⟩ := szScheme_f (m := m) hl
  unfold laws_FnExactCheckOf.f
  refine Ev.ite (fun _ => Ev.val rfl) (fun h2 => Ev.vbind hv ?_)
  rcases hc with hc | hc
  · exact Ev.pos hc (Ev.val rfl)
  · refine Ev.ite (fun _ => Ev.val rfl) (fun _ => ?_)
    have ht := toScheme_ev (m := m) hc
    obtain ⟨r, hr, hq⟩ := key m l s hc (by omega)
    refine Ev.bind ht (Ev.bind hr (Ev.bind ht (Ev.bind hq (Ev.pos rfl ?_))))
    refine Ev.step (fun k => by rw [laws_FnExactCheckOf.j0]) ?_
    exact Ev.neg (by simp) (Ev.bind ht (Ev.bind (eqScheme_ev hc) (Ev.pos rfl (Ev.val rfl))))
end Go.Proofs.YtbkincjjafioaaaDoor.Pure
