/- A scheme's text. No condition but bounds. -/
import Derived.Test.YtbkincjjafioaaaDoorPAx0
import Derived.Test.YtbkincjjafioaaaDoorPAx4
import Derived.Test.YtbkincjjafioaaaDoorPAx5
import Derived.Test.YtbkincjjafioaaaDoorPAx6
import Derived.Test.YtbkincjjafioaaaDoorQScheme
import Derived.Test.YtbkincjjafioaaaDoorQComma
namespace Go.Proofs.YtbkincjjafioaaaDoor.PA
open Go.RowKit Go.Proofs.YtbkincjjafioaaaDoorW.PrintWords
set_option linter.unusedVariables false

/-- a small number's digits -/
def decB (n : Int) : ByteArray := ⟨(Lib.decDigits n.toNat).toArray⟩
theorem num_small : ∀ n : Fin 100, spec_l1Num.f 3 (n.val : Int) = some (decB (n.val : Int)) := by decide +kernel
theorem dec_size : ∀ n : Fin 100, (decB (n.val : Int)).size ≤ 2 := by decide +kernel
theorem l1Num_ev (n : Int) (h0 : 0 ≤ n) (h1 : n < 100) : Ev (fun k => spec_l1Num.f k n) (decB n) := by
  obtain ⟨m, rfl⟩ := Int.eq_ofNat_of_zero_le h0
  refine ⟨3, fun k hk => ?_⟩
  have := leO_add (fun k => spec_l1Num.mono (m : Int) k) (num_small ⟨m, by omega⟩) (k - 3)
  rwa [show 3 + (k - 3) = k by omega] at this
theorem itoa_f (n : Int) (h0 : 0 ≤ n) (h1 : n < 100) : strconv_Itoa.f n = some (decB n) := by
  unfold strconv_Itoa.f
  rw [if_pos ⟨h0, h1⟩]; rfl
theorem dec_le (n : Int) (h0 : 0 ≤ n) (h1 : n < 100) : (decB n).size ≤ 6 := by
  obtain ⟨m, rfl⟩ := Int.eq_ofNat_of_zero_le h0
  have := dec_size ⟨m, by omega⟩
  simp only at this
  omega
section
variable (l : List Int) (hl : l.length ≤ 20) (hs : ∀ y ∈ l, 0 ≤ y ∧ y < 100)
include hl hs
omit hl in
theorem decs_le : ∀ y ∈ l.map decB, y.size ≤ 6 := by
  intro y hy
  obtain ⟨n, hn, rfl⟩ := List.mem_map.mp hy
  exact dec_le n (hs n hn).1 (hs n hn).2
theorem ckText_l0 (p : ByteArray) (hp : p.size ≤ 1000) : ∀ (d i : Nat), i + d = l.length → Ev (fun k => spec_ckText.l0 k (p ++ commaT ((l.map decB).take i)) l (l.length : Int) (i : Int)) (p ++ commaT (l.map decB))
  | 0, i, h => by
    refine Ev.step (fun k => by rw [spec_ckText.l0]) ?_
    refine Ev.neg (by omega) (Ev.val ?_)
    rw [List.take_of_length_le (by simp; omega)]
  | d + 1, i, h => by
    have hi : i < l.length := by omega
    have hy := hs _ (List.getElem_mem hi)
    have hz := comma_size (l.map decB) (decs_le l hs) i (by simp; omega)
    have hd := dec_le l[i] hy.1 hy.2
    have hg : (l.map decB)[i]'(by simpa using hi) = decB l[i] := by simp
    refine Ev.step (fun k => by rw [spec_ckText.l0]) ?_
    refine Ev.pos (by omega) (Ev.pos (by omega) (Ev.pos (by omega) ?_))
    rw [rd_nat hi, wrap_nat (by omega)]
    have ih := ckText_l0 p hp d (i + 1) (by omega)
    cases i with
    | zero =>
      refine Ev.neg (by omega) (Ev.bind (l1Num_ev _ hy.1 hy.2) (Ev.pos (by rw [size_append]; omega) ?_))
      have e : p ++ commaT ((l.map decB).take 0) ++ decB l[0] = p ++ commaT ((l.map decB).take 1) := by
        rw [comma_one (by simpa using hi), hg, comma_zero, app_nil]
      rw [e]
      exact ih
    | succ i =>
      refine Ev.pos (by omega) (Ev.pos (by rw [size_append]; omega) (Ev.bind (l1Num_ev _ hy.1 hy.2) (Ev.pos (by rw [size_append, size_append]; show _ + 1 + _ ≤ _; omega) ?_)))
      have e : p ++ commaT ((l.map decB).take (i + 1)) ++ (⟨#[44]⟩ : ByteArray) ++ decB l[i + 1] = p ++ commaT ((l.map decB).take (i + 2)) := by
        rw [comma_more (by simpa using hi), hg]
        simp only [app_assoc]
      rw [e]
      exact ih
theorem schemeText_l0 (m : Int) (ws : List Int) (h0 : 0 ≤ m) (h1 : m < 100) : ∀ (d i : Nat), i + d = l.length → Ev (fun k => impl_SchemeText.l0 k ((l.map decB).take i) l (l.length : Int) (i : Int) m ws) ((decB m ++ (⟨#[58]⟩ : ByteArray)) ++ commaT (l.map decB), true)
  | 0, i, h => by
    have hz := comma_size (l.map decB) (decs_le l hs) l.length (by simp)
    have hd := dec_le m h0 h1
    rw [List.take_of_length_le (by simp)] at hz
    refine Ev.step (fun k => by rw [impl_SchemeText.l0]) ?_
    refine Ev.neg (by omega) ?_
    rw [List.take_of_length_le (by simp; omega)]
    have hj : strings_Join.f (l.map decB) (⟨#[44]⟩ : ByteArray) = some (commaT (l.map decB)) := by
      unfold strings_Join.f
      have hz' : (Lib.join ((l.map decB).map (·.data.toList)) [44]).length ≤ 7 * l.length := hz
      rw [if_pos ⟨by show (Lib.join _ [44]).length ≤ _; omega, by simp; omega⟩]; rfl
    refine Ev.vbind (itoa_f m h0 h1) (Ev.pos (by omega) (Ev.vbind hj (Ev.pos ?_ (Ev.val rfl))))
    rw [size_append]; show _ + 1 + _ ≤ _; omega
  | d + 1, i, h => by
    have hi : i < l.length := by omega
    have hy := hs _ (List.getElem_mem hi)
    refine Ev.step (fun k => by rw [impl_SchemeText.l0]) ?_
    refine Ev.pos (by omega) (Ev.pos (by omega) (Ev.pos (by omega) ?_))
    rw [rd_nat hi, wrap_nat (by omega)]
    refine Ev.vbind (itoa_f _ hy.1 hy.2) (Ev.pos (by simp; omega) ?_)
    have e : (l.map decB).take i ++ [decB l[i]] = (l.map decB).take (i + 1) := by rw [take_succ_get (by simpa using hi)]; simp
    rw [e]
    exact schemeText_l0 m ws h0 h1 d (i + 1) (by omega)
end
end Go.Proofs.YtbkincjjafioaaaDoor.PA
