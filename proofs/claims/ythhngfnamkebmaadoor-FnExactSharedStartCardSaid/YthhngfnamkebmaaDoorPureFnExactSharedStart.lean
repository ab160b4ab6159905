/- It is proved that the law FnExactSharedStart, as a plain function, returns true: the program and the reference tell the same first digits that two codes have in common. No condition. -/
import Derived.Test.YthhngfnamkebmaaDoorPAx3
import Derived.Test.YthhngfnamkebmaaDoorQPlan
namespace Go.Proofs.YthhngfnamkebmaaDoor.Pure
open Go.RowKit Go.Proofs.YthhngfnamkebmaaDoor.PA Go.Proofs.YthhngfnamkebmaaDoorW.PrintWords Go.Proofs.YthhngfnamkebmaaDoorW.PrintLast
/-- THE ONE PURE STATEMENT of the law. -/
def laws_FnExactSharedStart.Said : Prop := ∀ (a0 : ByteArray) (a1 : ByteArray), (a0.size ≤ maxLen) → (a1.size ≤ maxLen) → ∃ k, laws_FnExactSharedStart.f k a0 a1 = some true
theorem same_l0 : ∀ (k : Nat) (a b : ByteArray) (i : Int), impl_SharedStart.l0 k a b i = spec_SharedStart.l0 k a b i
  | 0, _, _, _ => rfl
  | k + 1, a, b, i => by
    unfold impl_SharedStart.l0 spec_SharedStart.l0
    rw [same_l0 k]
theorem ends_l0 (a b : ByteArray) (ha : a.size ≤ 1048576) : ∀ (d i : Nat), i + d = a.size → ∃ r, Ev (fun k => spec_SharedStart.l0 k a b (i : Int)) (r, true)
  | 0, i, h => ⟨_, Ev.step (fun k => rfl) (Ev.neg (by omega) (Ev.pos (by omega) (Ev.pos (by omega) (Ev.val rfl))))⟩
  | d + 1, i, h => by
    by_cases hb : (i : Int) < (b.size : Int)
    · by_cases e : bt a (i : Int) = bt b (i : Int)
      · obtain ⟨r, hr⟩ := ends_l0 a b ha d (i + 1) (by omega)
        refine ⟨r, Ev.step (fun k => rfl) (Ev.pos (by omega) (Ev.pos hb (Ev.pos (by omega) (Ev.pos e ?_))))⟩
        rw [wrap_nat (by omega)]
        exact hr
      · exact ⟨_, Ev.step (fun k => rfl) (Ev.pos (by omega) (Ev.pos hb (Ev.pos (by omega) (Ev.neg e (Ev.pos (by omega) (Ev.val rfl))))))⟩
    · exact ⟨_, Ev.step (fun k => rfl) (Ev.pos (by omega) (Ev.neg hb (Ev.pos (by omega) (Ev.pos (by omega) (Ev.val rfl)))))⟩
theorem spec_no (a b : ByteArray) : Ev (fun k => spec_SharedStart.j0 k a b (!false)) ((⟨#[]⟩ : ByteArray), false) := by
  refine Ev.step (fun k => by rw [spec_SharedStart.j0]) ?_
  exact Ev.pos rfl (Ev.val rfl)
theorem impl_no (a b : ByteArray) : Ev (fun k => impl_SharedStart.j0 k a b (!false)) ((⟨#[]⟩ : ByteArray), false) := by
  refine Ev.step (fun k => by rw [impl_SharedStart.j0]) ?_
  exact Ev.pos rfl (Ev.val rfl)
theorem spec_yes {a b : ByteArray} {r : ByteArray × Bool} (h : Ev (fun k => spec_SharedStart.l0 k a b 0) r) : Ev (fun k => spec_SharedStart.j0 k a b (!true)) r := by
  refine Ev.step (fun k => by rw [spec_SharedStart.j0]) ?_
  exact Ev.neg (by simp) h
theorem impl_yes {a b : ByteArray} {r : ByteArray × Bool} (h : Ev (fun k => spec_SharedStart.l0 k a b 0) r) : Ev (fun k => impl_SharedStart.j0 k a b (!true)) r := by
  refine Ev.step (fun k => by rw [impl_SharedStart.j0]) ?_
  exact Ev.neg (by simp) (Ev.congr (fun k => same_l0 k a b _) h)
theorem FnExactSharedStart : laws_FnExactSharedStart.Said := by
  intro a b ha hb
  refine Ev.rounds ?_
  unfold laws_FnExactSharedStart.f
  refine Ev.ite (fun _ => Ev.val rfl) (fun h1 => Ev.ite (fun _ => Ev.val rfl) (fun h2 => ?_))
  have key : ∃ r : ByteArray × Bool, Ev (fun k => spec_SharedStart.f k a b) r ∧ Ev (fun k => impl_SharedStart.f k a b) r := by
    unfold spec_SharedStart.f impl_SharedStart.f
    cases ca : codeB a with
    | false => exact ⟨_, Ev.bind (ca ▸ plCode_ev a (by omega)) (Ev.neg (by simp) (spec_no a b)), Ev.vbind (ca ▸ isCode_f a (by omega)) (Ev.neg (by simp) (impl_no a b))⟩
    | true =>
      cases cb : codeB b with
      | false => exact ⟨_, Ev.bind (ca ▸ plCode_ev a (by omega)) (Ev.pos rfl (Ev.bind (cb ▸ plCode_ev b (by omega)) (spec_no a b))), Ev.vbind (ca ▸ isCode_f a (by omega)) (Ev.pos rfl (Ev.vbind (cb ▸ isCode_f b (by omega)) (impl_no a b)))⟩
      | true =>
        obtain ⟨r, hr⟩ := ends_l0 a b (by omega) a.size 0 (by omega)
        exact ⟨(r, true), Ev.bind (ca ▸ plCode_ev a (by omega)) (Ev.pos rfl (Ev.bind (cb ▸ plCode_ev b (by omega)) (spec_yes hr))), Ev.vbind (ca ▸ isCode_f a (by omega)) (Ev.pos rfl (Ev.vbind (cb ▸ isCode_f b (by omega)) (impl_yes hr)))⟩
  obtain ⟨r, hs, hi⟩ := key
  exact Ev.bind hs (Ev.bind hi (Ev.pos rfl (Ev.neg (by simp) (Ev.val rfl))))
end Go.Proofs.YthhngfnamkebmaaDoor.Pure
