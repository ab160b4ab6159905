/- Adding a code: the key. No condition but bounds. -/
import Derived.Test.YtphdlbdmdokfaaaDoorPAx0
import Derived.Test.YtphdlbdmdokfaaaDoorPAx4
import Derived.Test.YtphdlbdmdokfaaaDoorPAx10
import Derived.Test.YtphdlbdmdokfaaaDoorQPlanIs
import Derived.Test.YtphdlbdmdokfaaaDoorQHas
import Derived.Test.YtphdlbdmdokfaaaDoorQFit
namespace Go.Proofs.YtphdlbdmdokfaaaDoor.PA
open Go.RowKit Go.Proofs.YtphdlbdmdokfaaaDoorW.PrintWords
set_option linter.unusedVariables false

/-- a plan with a code more, if it is one -/
def addB (l : List ByteArray) (x : ByteArray) : List ByteArray × Bool := if hasB x l = false ∧ goodB (insB x l) = true then (insB x l, true) else ([], false)
theorem addCode_key (l : List ByteArray) (x : ByteArray) (h1 : l.length ≤ 1048576) (h2 : ∀ y ∈ l, y.size ≤ 1048576) (hx : x.size ≤ 1048576) :
    ∃ r : List ByteArray × Bool, Ev (fun k => spec_AddCode.f k l x) r ∧ Ev (fun k => impl_AddCode.f k l x) r ∧ r.1.length ≤ 1048576 := by
  have hg := plGood_ev l h1 h2
  have hi := isCodePlan_ev l h1 h2
  have hc1 := plCode_ev x (by omega)
  have hc2 := isCode_f x (by omega)
  have no : ∀ b, b = true → Ev (fun k => impl_AddCode.j0 k l x b) ([], false) := by
    intro b hb
    refine Ev.step (fun k => by rw [impl_AddCode.j0]) ?_
    exact Ev.pos hb (Ev.val rfl)
  unfold spec_AddCode.f impl_AddCode.f
  cases g : goodB l with
  | false =>
    rw [g] at hg hi
    exact ⟨([], false), Ev.bind hg (Ev.neg (by simp) (Ev.val rfl)), Ev.bind hi (Ev.neg (by simp) (no _ rfl)), by simp⟩
  | true =>
    rw [g] at hg hi
    cases hc : codeB x with
    | false =>
      rw [hc] at hc1 hc2
      exact ⟨([], false), Ev.bind hg (Ev.pos rfl (Ev.bind hc1 (Ev.neg (by simp) (Ev.val rfl)))), Ev.bind hi (Ev.pos rfl (Ev.vbind hc2 (Ev.neg (by simp) (no _ rfl)))), by simp⟩
    | true =>
      rw [hc] at hc1 hc2
      obtain ⟨gc, gu, ga⟩ := good_iff.mp g
      have hlen : l.length ≤ 20 := by unfold codesB at gc; simp only [Bool.and_eq_true, decide_eq_true_eq] at gc; omega
      have hput := wdPut_ev l x h1 gu
      have hin : ∀ y ∈ insB x l, y.size ≤ 1048576 := fun y hy => by
        rcases mem_insB.mp hy with rfl | hy
        · exact hx
        · exact h2 y hy
      have sp : Ev (fun k => spec_plAdd.f k l x) (addB l x) := by
        unfold spec_plAdd.f addB
        refine Ev.bind hput ?_
        by_cases hm : x ∈ l
        · rw [insB_in gu hm]
          exact Ev.pos rfl (Ev.val (by rw [if_neg (fun h => has_not.mp h.1 hm)]))
        · have hz := len_insB hm
          refine Ev.neg (by omega) (Ev.bind (plGood_ev (insB x l) (by omega) hin) ?_)
          cases hgi : goodB (insB x l) with
          | true => exact Ev.pos rfl (Ev.val (by rw [if_pos ⟨has_not.mpr hm, rfl⟩]))
          | false => exact Ev.neg (by simp) (Ev.val (by simp))
      have hr : (addB l x).1.length ≤ 1048576 := by
        unfold addB
        split
        · rename_i h
          have hz := len_insB (has_not.mp h.1)
          show (insB x l).length ≤ _
          omega
        · simp
      refine ⟨addB l x, Ev.bind hg (Ev.pos rfl (Ev.bind hc1 (Ev.pos rfl (Ev.bind sp (Ev.val rfl))))), Ev.bind hi (Ev.pos rfl (Ev.vbind hc2 (Ev.pos rfl (Ev.vbind (fits_f l x h1) ?_)))), hr⟩
      cases hf : fitB l x with
      | false =>
        refine Ev.eq (no _ rfl) ?_
        unfold addB
        rw [if_neg]
        rintro ⟨hm0, hgi⟩
        have hm := has_not.mp hm0
        obtain ⟨_, _, hap⟩ := good_iff.mp hgi
        have : fitB l x = true := fitB_iff.mpr fun c hc => by
          have hne : c ≠ x := fun e => hm (e ▸ hc)
          exact ⟨hap c (mem_insB.mpr (.inr hc)) x (mem_insB.mpr (.inl rfl)) hne, hap x (mem_insB.mpr (.inl rfl)) c (mem_insB.mpr (.inr hc)) (Ne.symm hne)⟩
        rw [this] at hf
        exact absurd hf (by simp)
      | true =>
        have hm : x ∉ l := fun h => by have := (fitB_iff.mp hf x h).1; rw [begB_self] at this; exact absurd this (by simp)
        refine Ev.step (fun k => by rw [impl_AddCode.j0]) ?_
        have hcl : slices_Clone_string_string.f l = some l := by unfold slices_Clone_string_string.f; rw [if_pos h1]
        have hmk := makeI_ev (l ++ [x]) (by simp; omega) (fun y hy => by
          rcases List.mem_append.mp hy with hy | hy
          · exact h2 y hy
          · rw [List.mem_singleton.mp hy]; exact hx)
        have e : planOf (l ++ [x]) = addB l x := by
          have ep : putAll [] (l ++ [x]) = insB x l := by
            have := putAll_up gu
            unfold putAll at this ⊢
            rw [List.foldl_append, this]; rfl
          have hz := len_insB hm
          unfold planOf addB
          rw [ep]
          by_cases hgi : goodB (insB x l) = true
          · have hcc : codesB (l ++ [x]) = true := by
              have := good_codes hgi
              rwa [codes_perm ((insB_perm hm).trans (List.perm_append_singleton x l).symm)] at this
            rw [if_pos ⟨hcc, by rw [hz]; simp, hgi⟩, if_pos ⟨has_not.mpr hm, hgi⟩]
          · rw [if_neg (fun h => hgi h.2.2), if_neg (fun h => hgi h.2)]
        rw [e] at hmk
        exact Ev.neg (by simp) (Ev.vbind hcl (Ev.pos (by omega) (Ev.bind hmk (Ev.val rfl))))
end Go.Proofs.YtphdlbdmdokfaaaDoor.PA
