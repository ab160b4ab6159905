/- It is proved that the law FnExactIsDesk, as a plain function, returns true: the program and the reference call the same a desk. No condition. -/
import Derived.Test.YthnippdgfhbneaaDoorPAx8
import Derived.Test.YthnippdgfhbneaaDoorMFnExactIsDesk
namespace Go.Proofs.YthnippdgfhbneaaDoor.Pure
open Go.RowKit Go.Proofs.YthnippdgfhbneaaDoor.PA Go.Proofs.YthnippdgfhbneaaDoorW.PrintWords Go.Proofs.YthnippdgfhbneaaDoorW.PrintLast
/-- THE ONE PURE STATEMENT of the law. -/
def laws_FnExactIsDesk.Said : Prop := ∀ (a0 : S39), ((a0.f0.size ≤ maxLen) ∧ (a0.f1.size ≤ maxLen) ∧ (a0.f2.size ≤ maxLen)) → ∃ k, laws_FnExactIsDesk.f k (a0.f0) (a0.f1) (a0.f2) = some true
theorem szDesk_f {a b c : ByteArray} (h0 : a.size ≤ 9223372036854775807) (h1 : b.size ≤ 9223372036854775807) (h2 : c.size ≤ 9223372036854775807) : ∃ v, laws_szDesk.f a b c 1048576 = some v ∧ (v < 0 ∨ a.size ≤ 1048576 ∧ b.size ≤ 1048576 ∧ c.size ≤ 1048576) := by
  unfold laws_szDesk.f
  have w0 : wrap64 (1048576 - (a.size : Int)) = 1048576 - (a.size : Int) := wrap_in (by omega) (by omega)
  rw [w0]
  by_cases e0 : 1048576 - (a.size : Int) < 0
  · rw [if_pos e0]; exact ⟨_, rfl, .inl (by omega)⟩
  · have w1 : wrap64 (1048576 - (a.size : Int) - (b.size : Int)) = 1048576 - (a.size : Int) - (b.size : Int) := wrap_in (by omega) (by omega)
    rw [if_neg e0, w1]
    by_cases e1 : 1048576 - (a.size : Int) - (b.size : Int) < 0
    · rw [if_pos e1]; exact ⟨_, rfl, .inl (by omega)⟩
    · have w2 : wrap64 (1048576 - (a.size : Int) - (b.size : Int) - (c.size : Int)) = 1048576 - (a.size : Int) - (b.size : Int) - (c.size : Int) := wrap_in (by omega) (by omega)
      rw [if_neg e1, w2]
      by_cases e2 : 1048576 - (a.size : Int) - (b.size : Int) - (c.size : Int) < 0
      · rw [if_pos e2]; exact ⟨_, rfl, .inl (by omega)⟩
      · rw [if_neg e2]; exact ⟨_, rfl, .inr ⟨by omega, by omega, by omega⟩⟩
theorem isDesk_key (a b c : ByteArray) (ha : a.size ≤ 1048576) (hb : b.size ≤ 1048576) : ∃ r, Ev (fun k => spec_IsDesk.f k a b c) r ∧ impl_IsDesk.f a b c = some r := by
  have w1 := prWord_ev a (by omega)
  have w2 := thGood_ev b (by omega)
  have w3 := wkPiece_f c
  unfold spec_IsDesk.f spec_coGood.f impl_IsDesk.f
  rw [isWord_f, isDialed_f, isPiece_f, w3]
  cases e1 : wordB a with
  | false => exact ⟨false, Ev.bind (Ev.bind w1 (by rw [e1]; exact Ev.neg (by simp) (Ev.val rfl))) (Ev.val rfl), rfl⟩
  | true =>
    rw [e1] at w1
    cases e2 : dialB b with
    | false => exact ⟨false, Ev.bind (Ev.bind w1 (Ev.pos rfl (Ev.bind w2 (by rw [e2]; exact Ev.neg (by simp) (Ev.val rfl))))) (Ev.val rfl), rfl⟩
    | true =>
      rw [e2] at w2
      exact ⟨pieceB c, Ev.bind (Ev.bind w1 (Ev.pos rfl (Ev.bind w2 (Ev.pos rfl (Ev.vbind rfl (Ev.val rfl)))))) (Ev.val rfl), rfl⟩
theorem FnExactIsDesk : laws_FnExactIsDesk.Said := by
  intro d ⟨h0, h1, h2⟩
  unfold maxLen at h0 h1 h2
  refine Ev.rounds ?_
  generalize d.f0 = a at h0 ⊢
  generalize d.f1 = b at h1 ⊢
  generalize d.f2 = c at h2 ⊢
  unfold laws_FnExactIsDesk.f
  obtain ⟨v, hv, hc⟩ := szDesk_f (a := a) (b := b) (c := c) h0 h1 h2
  have ht : laws_toDesk.f a b c = some (a, b, c) := rfl
  refine Ev.vbind hv (Ev.ite (fun _ => Ev.val rfl) (fun hn => ?_))
  obtain ⟨ha, hb, _⟩ := hc.resolve_left hn
  obtain ⟨r, hr, hq⟩ := isDesk_key a b c ha hb
  exact Ev.vbind ht (Ev.bind hr (Ev.vbind ht (Ev.vbind hq (Ev.neg (by simp) (Ev.val rfl)))))
end Go.Proofs.YthnippdgfhbneaaDoor.Pure
