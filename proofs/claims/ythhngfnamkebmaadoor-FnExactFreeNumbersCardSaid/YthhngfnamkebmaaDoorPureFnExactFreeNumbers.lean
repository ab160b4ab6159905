/- It is proved that the law FnExactFreeNumbers, as a plain function, returns true: the program and the reference count the same free numbers. No condition. -/
import Derived.Test.YthhngfnamkebmaaDoorPAx13
import Derived.Test.YthhngfnamkebmaaDoorQFreeN
namespace Go.Proofs.YthhngfnamkebmaaDoor.Pure
open Go.RowKit Go.Proofs.YthhngfnamkebmaaDoor.PA Go.Proofs.YthhngfnamkebmaaDoorW.PrintWords Go.Proofs.YthhngfnamkebmaaDoorW.PrintLast
/-- THE ONE PURE STATEMENT of the law. -/
def laws_FnExactFreeNumbers.Said : Prop := ∀ (a0 : List ByteArray) (a1 : Int), (a0.length ≤ maxLen ∧ ∀ y ∈ a0, y.size ≤ maxLen) → ((Lit.int .i64 a1).wf = true) → ∃ k, laws_FnExactFreeNumbers.f k a0 a1 = some true
theorem key (l : List ByteArray) (n : Int) (h1 : l.length ≤ 1048576) (h2 : ∀ y ∈ l, y.size ≤ 1048576) :
    ∃ r : Int × Bool, Ev (fun k => spec_FreeNumbers.f k l n) r ∧ Ev (fun k => impl_FreeNumbers.f k l n) r := by
  have hg := plGood_ev l h1 h2
  have hi := isCodePlan_ev l h1 h2
  unfold spec_FreeNumbers.f impl_FreeNumbers.f
  have no : ∀ b, b = true → Ev (fun k => spec_FreeNumbers.j0 k l n b) (0, false) := by
    intro b hb
    refine Ev.step (fun k => by rw [spec_FreeNumbers.j0]) ?_
    exact Ev.pos hb (Ev.val rfl)
  cases g : goodB l with
  | false =>
    rw [g] at hg hi
    exact ⟨(0, false), Ev.bind hg (Ev.neg (by simp) (no _ rfl)), Ev.pos (by omega) (Ev.bind hi (Ev.neg (by simp) (Ev.val rfl)))⟩
  | true =>
    rw [g] at hg hi
    have hn := good_len g
    have hc : ∀ y ∈ l, y.size ≤ 6 := fun y hy => (code_size (good_code g hy)).2
    cases hd : decide (1 ≤ n) && decide (n ≤ 6) with
    | false =>
      refine ⟨(0, false), Ev.bind hg (Ev.pos rfl (Ev.vbind (plLong_f n) ?_)), Ev.pos (by omega) (Ev.bind hi (Ev.pos rfl (Ev.vbind (codeLong_f n) ?_)))⟩
      · rw [hd]; exact no _ rfl
      · rw [hd]; exact Ev.neg (by simp) (Ev.val rfl)
    | true =>
      have hn' : 1 ≤ n ∧ n ≤ 6 := by simpa using hd
      obtain ⟨m, rfl⟩ := Int.eq_ofNat_of_zero_le (show 0 ≤ n by omega)
      have hp := p10_le m (by omega)
      obtain ⟨e1, e2⟩ := freeN_l0 l hn.2 hc m (by omega) l.length 0 (p10 m) (by omega) (by omega) (by omega)
      rw [List.drop_zero] at e1 e2
      have hany := anyO_pure (fun c : ByteArray => decide ((c.size : Int) > (m : Int))) (fun c => some (decide ((c.size : Int) > (m : Int)))) l (fun _ _ => rfl)
      have hall : l.any (fun c : ByteArray => decide ((c.size : Int) > (m : Int))) = true ↔ ¬ ∀ c ∈ l, c.size ≤ m := by
        rw [List.any_eq_true]
        constructor
        · rintro ⟨c, h, e⟩ hh
          have := hh c h; have := of_decide_eq_true e; omega
        · intro hh
          refine Classical.byContradiction fun hno => hh fun c h => ?_
          refine Classical.byContradiction fun hlt => hno ⟨c, h, decide_eq_true (by omega)⟩
      have sp : ∀ r, Ev (fun k => spec_FreeNumbers.l0 k (m : Int) (p10 m) l (l.length : Int) 0) r → Ev (fun k => spec_FreeNumbers.j0 k l (m : Int) (!true)) r := by
        intro r hr
        refine Ev.step (fun k => by rw [spec_FreeNumbers.j0]) ?_
        exact Ev.neg (by simp) (Ev.bind (plTens_ev m (by omega)) hr)
      cases ha : l.any (fun c : ByteArray => decide ((c.size : Int) > (m : Int))) with
      | true =>
        rw [ha] at hany
        refine ⟨(0, false), Ev.bind hg (Ev.pos rfl (Ev.vbind (plLong_f _) ?_)), Ev.pos (by omega) (Ev.bind hi (Ev.pos rfl (Ev.vbind (codeLong_f _) ?_)))⟩
        · rw [hd]; exact sp _ (e2 (hall.mp ha))
        · rw [hd]; exact Ev.pos rfl (Ev.vbind hany (Ev.pos rfl (Ev.val rfl)))
      | false =>
        rw [ha] at hany
        have hs : ∀ c ∈ l, c.size ≤ m := Classical.byContradiction fun hh => by rw [hall.mpr hh] at ha; exact absurd ha (by simp)
        have hf : Ev (fun k => impl_freeCodes.f k l (m : Int)) (p10 m - partN m l) := freeCodes_of l hn.2 hc m (by omega) _ _ rfl (go_short m (by omega) l (p10 m) hn.2 hs (by omega) (by omega))
        refine ⟨(p10 m - partN m l, true), Ev.bind hg (Ev.pos rfl (Ev.vbind (plLong_f _) ?_)), Ev.pos (by omega) (Ev.bind hi (Ev.pos rfl (Ev.vbind (codeLong_f _) ?_)))⟩
        · rw [hd]; exact sp _ (e1 hs)
        · rw [hd]; exact Ev.pos rfl (Ev.vbind hany (Ev.neg (by simp) (Ev.bind hf (Ev.val rfl))))
theorem FnExactFreeNumbers : laws_FnExactFreeNumbers.Said := by
  intro l n ⟨hl, hs⟩ _
  refine Ev.rounds ?_
  obtain ⟨v, hv, hc⟩ := szStringS_ev hl hs
  unfold laws_FnExactFreeNumbers.f
  refine Ev.bind hv ?_
  rcases hc with hc | ⟨h1, h2⟩
  · exact Ev.pos hc (Ev.val rfl)
  · refine Ev.ite (fun _ => Ev.val rfl) (fun _ => ?_)
    have ht := toStringS_ev (l := l) (by omega)
    obtain ⟨r, hr, hq⟩ := key l n h1 h2
    refine Ev.bind ht (Ev.bind hr (Ev.bind ht (Ev.bind hq (Ev.pos rfl ?_))))
    refine Ev.step (fun k => by rw [laws_FnExactFreeNumbers.j0]) ?_
    exact Ev.neg (by simp) (Ev.bind ht (Ev.bind (eqStringS_ev (by omega)) (Ev.pos (by simp) (Ev.val rfl))))
end Go.Proofs.YthhngfnamkebmaaDoor.Pure
