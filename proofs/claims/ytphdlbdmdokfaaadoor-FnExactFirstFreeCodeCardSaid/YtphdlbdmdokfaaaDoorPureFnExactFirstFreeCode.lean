/- It is proved that the law FnExactFirstFreeCode, as a plain function, returns true: the program and the reference find the same first free code. No condition. -/
import Derived.Test.YtphdlbdmdokfaaaDoorPAx7
import Derived.Test.YtphdlbdmdokfaaaDoorQFirstK
import Derived.Test.YtphdlbdmdokfaaaDoorQLong
namespace Go.Proofs.YtphdlbdmdokfaaaDoor.Pure
open Go.RowKit Go.Proofs.YtphdlbdmdokfaaaDoor.PA Go.Proofs.YtphdlbdmdokfaaaDoorW.PrintWords Go.Proofs.YtphdlbdmdokfaaaDoorW.PrintLast
/-- THE ONE PURE STATEMENT of the law. -/
def laws_FnExactFirstFreeCode.Said : Prop := ∀ (a0 : List ByteArray) (a1 : Int), (a0.length ≤ maxLen ∧ ∀ y ∈ a0, y.size ≤ maxLen) → ((Lit.int .i64 a1).wf = true) → ∃ k, laws_FnExactFirstFreeCode.f k a0 a1 = some true
theorem key (l : List ByteArray) (n : Int) (h1 : l.length ≤ 1048576) (h2 : ∀ y ∈ l, y.size ≤ 1048576) :
    ∃ r : ByteArray × Bool, Ev (fun k => spec_FirstFreeCode.f k l n) r ∧ Ev (fun k => impl_FirstFreeCode.f k l n) r := by
  have hg := plGood_ev l h1 h2
  have hi := isCodePlan_ev l h1 h2
  unfold spec_FirstFreeCode.f impl_FirstFreeCode.f
  cases g : goodB l with
  | false =>
    rw [g] at hg hi
    exact ⟨(⟨#[]⟩, false), Ev.bind hg (Ev.neg (by simp) (Ev.val rfl)), Ev.bind hi (Ev.neg (by simp) (Ev.val rfl))⟩
  | true =>
    rw [g] at hg hi
    cases hd : decide (1 ≤ n) && decide (n ≤ 6) with
    | false =>
      refine ⟨(⟨#[]⟩, false), Ev.bind hg (Ev.pos rfl (Ev.vbind (plLong_f n) ?_)), Ev.bind hi (Ev.pos rfl (Ev.vbind (codeLong_f n) ?_))⟩
      · rw [hd]; exact Ev.neg (by simp) (Ev.val rfl)
      · rw [hd]; exact Ev.neg (by simp) (Ev.val rfl)
    | true =>
      have hn' : 1 ≤ n ∧ n ≤ 6 := by simpa using hd
      obtain ⟨m, rfl⟩ := Int.eq_ofNat_of_zero_le (show 0 ≤ n by omega)
      have hp : ∀ c ∈ l, c.size ≠ 0 := fun c hc => by have := code_size (good_code g hc); omega
      obtain ⟨r, e1, e2⟩ := first_same l h1 hp m (by omega) (by omega) m ⟨#[]⟩ (by show 0 + m = m; omega) (fun c hc h => by
        obtain ⟨t, ht⟩ := begB_iff.mp h
        have : c.size = 0 := by
          have := congrArg List.length ht
          rw [List.length_append, ← size_data, ← size_data] at this
          have z : (⟨#[]⟩ : ByteArray).size = 0 := rfl
          omega
        exact absurd this (hp c hc))
      refine ⟨r, Ev.bind hg (Ev.pos rfl (Ev.vbind (plLong_f _) ?_)), Ev.bind hi (Ev.pos rfl (Ev.vbind (codeLong_f _) ?_))⟩
      · rw [hd]; exact Ev.pos rfl (Ev.bind e1 (Ev.val rfl))
      · rw [hd]; exact Ev.pos rfl (Ev.bind e2 (Ev.val rfl))
theorem FnExactFirstFreeCode : laws_FnExactFirstFreeCode.Said := by
  intro l n ⟨hl, hs⟩ _
  refine Ev.rounds ?_
  obtain ⟨v, hv, hc⟩ := szStringS_ev hl hs
  unfold laws_FnExactFirstFreeCode.f
  refine Ev.bind hv ?_
  rcases hc with hc | ⟨h1, h2⟩
  · exact Ev.pos hc (Ev.val rfl)
  · refine Ev.ite (fun _ => Ev.val rfl) (fun _ => ?_)
    have ht := toStringS_ev (l := l) (by omega)
    obtain ⟨r, hr, hq⟩ := key l n h1 h2
    refine Ev.bind ht (Ev.bind hr (Ev.bind ht (Ev.bind hq (Ev.pos rfl ?_))))
    refine Ev.step (fun k => by rw [laws_FnExactFirstFreeCode.j0]) ?_
    exact Ev.neg (by simp) (Ev.bind ht (Ev.bind (eqStringS_ev (by omega)) (Ev.pos (by simp) (Ev.val rfl))))
end Go.Proofs.YtphdlbdmdokfaaaDoor.Pure
