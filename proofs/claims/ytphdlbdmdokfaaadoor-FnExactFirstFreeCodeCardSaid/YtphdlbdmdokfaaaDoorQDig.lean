/- A text with one digit more: its bytes, and what begins it. No condition. -/
import Derived.Test.YtphdlbdmdokfaaaDoorPAx0
import Derived.Test.YtphdlbdmdokfaaaDoorPAx6
import Derived.Test.YtphdlbdmdokfaaaDoorQBeg
namespace Go.Proofs.YtphdlbdmdokfaaaDoor.PA
open Go.RowKit Go.Proofs.YtphdlbdmdokfaaaDoorW.PrintWords
set_option linter.unusedVariables false

theorem num_dig : ∀ d : Fin 10, spec_l1Num.f 1 (d.val : Int) = some (digS.extract d.val (d.val + 1)) := by decide +kernel
theorem dig_data : ∀ d : Fin 10, (digS.extract d.val (d.val + 1)).data.toList = [UInt8.ofNat (48 + d.val)] := by decide +kernel
theorem dig_is : ∀ d : Fin 10, digB (UInt8.ofNat (48 + d.val)) = true := by decide +kernel
theorem dig_inj : ∀ a b : Fin 10, UInt8.ofNat (48 + a.val) = UInt8.ofNat (48 + b.val) → a = b := by decide +kernel
theorem l1Num_dig (d : Nat) (h : d < 10) : Ev (fun k => spec_l1Num.f k (d : Int)) (digS.extract d (d + 1)) := by
  refine ⟨1, fun k hk => ?_⟩
  have := leO_add (fun k => spec_l1Num.mono (d : Int) k) (num_dig ⟨d, h⟩) (k - 1)
  rwa [show 1 + (k - 1) = k by omega] at this
theorem moreD_data (c : ByteArray) (d : Nat) (h : d < 10) : (moreD c d).data.toList = c.data.toList ++ [UInt8.ofNat (48 + d)] := by
  unfold moreD
  rw [data_append, dig_data ⟨d, h⟩]
theorem moreD_size (c : ByteArray) (d : Nat) (h : d < 10) : (moreD c d).size = c.size + 1 := by
  rw [size_data, moreD_data c d h, List.length_append]; rfl
theorem beg_more {c : ByteArray} {d : Nat} (h : d < 10) : begB c (moreD c d) = true := begB_iff.mpr ⟨_, moreD_data c d h⟩
theorem beg_trans {a b c : ByteArray} (h1 : begB a b = true) (h2 : begB b c = true) : begB a c = true := by
  obtain ⟨t, ht⟩ := begB_iff.mp h1
  obtain ⟨u, hu⟩ := begB_iff.mp h2
  exact begB_iff.mpr ⟨t ++ u, by rw [hu, ht, List.append_assoc]⟩
theorem beg_eq {a b : ByteArray} (h : begB a b = true) (hz : a.size = b.size) : a = b := by
  obtain ⟨t, ht⟩ := begB_iff.mp h
  have : t = [] := by
    have := congrArg List.length ht
    rw [List.length_append, ← size_data, ← size_data] at this
    exact List.eq_nil_of_length_eq_zero (by omega)
  rw [this, List.append_nil] at ht
  exact ba_ext ht.symm
/-- what begins a longer text begins the text, or is the longer one -/
theorem beg_snoc {x c : ByteArray} {d : Nat} (h : d < 10) (hx : begB x (moreD c d) = true) : begB x c = true ∨ x = moreD c d := by
  obtain ⟨t, ht⟩ := begB_iff.mp hx
  rw [moreD_data c d h] at ht
  rcases List.eq_nil_or_concat t with rfl | ⟨t', u, rfl⟩
  · right
    rw [List.append_nil] at ht
    exact ba_ext (by rw [moreD_data c d h, ht])
  · left
    rw [List.concat_eq_append, ← List.append_assoc] at ht
    have := List.append_inj_left' ht (by simp)
    exact begB_iff.mpr ⟨t', this⟩
end Go.Proofs.YtphdlbdmdokfaaaDoor.PA
