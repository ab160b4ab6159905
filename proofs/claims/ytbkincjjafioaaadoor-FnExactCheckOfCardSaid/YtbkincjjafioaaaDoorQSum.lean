/- Sums of numbers with their checks: the reference's and the program's are one. No condition but bounds. -/
import Derived.Test.YtbkincjjafioaaaDoorPAx0
import Derived.Test.YtbkincjjafioaaaDoorPAx1
import Derived.Test.YtbkincjjafioaaaDoorPAx9
import Derived.Test.YtbkincjjafioaaaDoorPAx11
import Derived.Test.YtbkincjjafioaaaDoorPAx13
import Derived.Test.YtbkincjjafioaaaDoorPAx14
import Derived.Test.YtbkincjjafioaaaDoorQScheme
import Derived.Test.YtbkincjjafioaaaDoorQDoubled
import Derived.Lib.Bytealg
namespace Go.Proofs.YtbkincjjafioaaaDoor.PA
open Go.RowKit Go.Proofs.YtbkincjjafioaaaDoorW.PrintWords
set_option linter.unusedVariables false

def signs : ByteArray := ⟨#[48, 49, 50, 51, 52, 53, 54, 55, 56, 57, 88]⟩
/-- the place of a check's sign, or -1 -/
def chk (b : UInt8) : Int := Lib.indexByte signs.data.toList b
theorem chk_all : ∀ b : Fin 256, spec_ckCheck.l0 12 (b.val : Int) 0 = some (chk (UInt8.ofNat b.val)) := by decide +kernel
theorem chk_range : ∀ b : Fin 256, -1 ≤ chk (UInt8.ofNat b.val) ∧ chk (UInt8.ofNat b.val) ≤ 10 := by decide +kernel
theorem chk_le (b : UInt8) : -1 ≤ chk b ∧ chk b ≤ 10 := by
  have := chk_range ⟨b.toNat, b.toNat_lt⟩
  simpa using this
theorem ckCheck_ev (b : UInt8) : Ev (fun k => spec_ckCheck.f k (b.toNat : Int)) (chk b) := by
  refine ⟨12, fun k hk => ?_⟩
  have h := chk_all ⟨b.toNat, b.toNat_lt⟩
  simp only [UInt8.ofNat_toNat] at h
  have := leO_add (fun k => spec_ckCheck.mono (b.toNat : Int) k) (k := 12) h (k - 12)
  rwa [show 12 + (k - 12) = k by omega] at this
theorem indexByte_f (b : UInt8) : strings_IndexByte.f signs (b.toNat : Int) = some (chk b) := by
  unfold strings_IndexByte.f chk
  rw [Int.toNat_natCast]
  simp
theorem bt_of {s : ByteArray} {i : Nat} (h : i < s.size) : ∃ b : UInt8, bt s (i : Int) = (b.toNat : Int) := ⟨_, bt_nat h⟩
theorem bt_cut {s : ByteArray} {n i : Nat} (hn : n ≤ s.size) (hi : i < n) : bt (s.extract 0 n) (i : Int) = bt s (i : Int) := by
  have hz : (s.extract 0 n).size = n := by rw [ByteArray.size_extract]; omega
  rw [bt_nat (by omega), bt_nat (show i < s.size by omega)]
  have e : (s.extract 0 n).data.toList = s.data.toList.take n := by rw [data_extract, List.drop_zero]
  simp only [e, List.getElem_take]
section
variable (l : List Int) (hl : l.length ≤ 12) (hw : ∀ w ∈ l, 0 ≤ w ∧ w ≤ 12) (s t : ByteArray) (ht : t.size = l.length) (hs : l.length ≤ s.size) (hb : ∀ i, i < l.length → bt t ((i : Nat) : Int) = bt s ((i : Nat) : Int))
include hl hw ht hs hb
theorem sum_l0 (m : Int) : ∀ (d i : Nat) (x : Int), i + d = l.length → 0 ≤ x → x ≤ 4000 * (i : Int) →
    ∃ v, 0 ≤ v ∧ v ≤ 48000 ∧ Ev (fun k => spec_ckSum.l0 k s x l (l.length : Int) (i : Int)) v ∧ Ev (fun k => impl_Scheme_sum.l0 k t x (t.size : Int) (i : Int) m l) (v, m)
  | 0, i, x, h, h0, h1 => by
    refine ⟨x, h0, by omega, ?_, ?_⟩
    · refine Ev.step (fun k => by rw [spec_ckSum.l0]) ?_
      exact Ev.neg (by omega) (Ev.val rfl)
    · refine Ev.step (fun k => by rw [impl_Scheme_sum.l0]) ?_
      exact Ev.neg (by omega) (Ev.val rfl)
  | d + 1, i, x, h, h0, h1 => by
    have hi : i < l.length := by omega
    have hy := hw _ (List.getElem_mem hi)
    have hc : ∃ c : Int, c = (bt s (i : Int) - 48) % 256 ∧ 0 ≤ c ∧ c < 256 := ⟨_, rfl, by omega, by omega⟩
    obtain ⟨c, hc, hc0, hc1⟩ := hc
    have hp0 : 0 ≤ l[i] * c := Int.mul_nonneg hy.1 hc0
    have hp1 : l[i] * c ≤ 12 * 255 := Int.mul_le_mul hy.2 (by omega) hc0 (by decide)
    obtain ⟨v, v0, v1, e1, e2⟩ := sum_l0 m d (i + 1) (x + l[i] * c) (by omega) (by omega) (by omega)
    refine ⟨v, v0, v1, ?_, ?_⟩
    · refine Ev.step (fun k => by rw [spec_ckSum.l0]) ?_
      refine Ev.pos (by omega) (Ev.pos (by omega) (Ev.pos (by omega) (Ev.pos (by omega) ?_)))
      rw [rd_nat hi, ← hc, wrap_nat (by omega), wrap_in (n := l[i] * c) (by omega) (by omega), wrap_in (by omega) (by omega)]
      exact e1
    · refine Ev.step (fun k => by rw [impl_Scheme_sum.l0]) ?_
      refine Ev.pos (by omega) (Ev.pos (by omega) (Ev.pos (by omega) (Ev.vbind (a := c) (by rw [hb i hi, hc]; rfl) (Ev.pos (by omega) ?_))))
      rw [rd_nat hi, wrap_nat (by omega), Int.mul_comm c, wrap_in (n := l[i] * c) (by omega) (by omega), wrap_in (by omega) (by omega)]
      exact e2
theorem sum_ev (m : Int) : ∃ v, 0 ≤ v ∧ v ≤ 48000 ∧ Ev (fun k => spec_ckSum.f k m l s) v ∧ Ev (fun k => impl_Scheme_sum.f k m l t) (v, m) :=
  sum_l0 l hl hw s t ht hs hb m l.length 0 0 (by omega) (by omega) (by omega)
end
theorem number_ev (m : Int) (l : List Int) (s : ByteArray) (hl : l.length ≤ 1048576) (hs : s.size ≤ 1048576) :
    ∃ b, Ev (fun k => spec_ckNumber.f k m l s) b ∧ impl_numberOk.f m l s = some b ∧ (b = true → schB m l = true ∧ s.size = l.length + 1) := by
  have hg := ckGood_ev m l hl
  have hi := isScheme_f m l hl
  unfold spec_ckNumber.f impl_numberOk.f
  cases g : schB m l with
  | false =>
    rw [g] at hg hi
    exact ⟨false, Ev.bind hg (Ev.neg (by simp) (Ev.val rfl)), by rw [hi]; rfl, by simp⟩
  | true =>
    rw [g] at hg hi
    rw [wrap_nat (by omega), hi, Option.bind_some, if_pos rfl]
    by_cases hz : s.size = l.length + 1
    · have hz' : (s.size : Int) = ((l.length + 1 : Nat) : Int) := by omega
      have hcut : (s.extract 0 l.length).size = l.length := by rw [ByteArray.size_extract]; omega
      obtain ⟨b, hb⟩ := bt_of (s := s) (i := l.length) (by omega)
      have hd := ckDigits_l0 (s.extract 0 l.length) (by omega) (s.extract 0 l.length).size 0 (by omega)
      rw [List.drop_zero] at hd
      have ho := over_digits (s.extract 0 l.length) (by omega)
      rw [if_pos hz', if_pos (by omega), if_pos (by omega), Int.toNat_natCast, ho, Option.bind_some]
      cases hall : (s.extract 0 l.length).data.toList.all digB with
      | false =>
        rw [hall] at hd
        refine ⟨false, Ev.bind hg (Ev.pos rfl (Ev.pos hz' (Ev.pos (by omega) (Ev.pos (by omega) (Ev.bind (g := fun k => spec_ckDigits.f k (s.extract 0 l.length)) hd (Ev.neg (by simp) (Ev.val rfl))))))), rfl, by simp⟩
      | true =>
        rw [hall] at hd
        rw [if_pos rfl, if_pos (by omega), hb]
        have hx : strings_IndexByte.f (⟨#[48, 49, 50, 51, 52, 53, 54, 55, 56, 57, 88]⟩ : ByteArray) (b.toNat : Int) = some (chk b) := indexByte_f b
        rw [hx]
        refine ⟨decide (chk b ≥ 0), Ev.bind hg (Ev.pos rfl (Ev.pos hz' (Ev.pos (by omega) (Ev.pos (by omega) (Ev.bind (g := fun k => spec_ckDigits.f k (s.extract 0 l.length)) hd (Ev.pos rfl (Ev.pos (by omega) (Ev.bind (ckCheck_ev b) (Ev.val rfl))))))))), rfl, fun _ => ⟨rfl, hz⟩⟩
    · have hz' : ¬ (s.size : Int) = ((l.length + 1 : Nat) : Int) := by omega
      rw [if_neg hz']
      exact ⟨false, Ev.bind hg (Ev.pos rfl (Ev.neg hz' (Ev.val rfl))), rfl, by simp⟩
/-- a number's whole sum -/
theorem whole_ev (m : Int) (l : List Int) (s : ByteArray) (hl : l.length ≤ 12) (hw : ∀ w ∈ l, 0 ≤ w ∧ w ≤ 12) (hz : s.size = l.length + 1) :
    ∃ v c, 0 ≤ v ∧ v ≤ 48000 ∧ -1 ≤ c ∧ c ≤ 10 ∧ Ev (fun k => spec_ckSum.f k m l s) v ∧ Ev (fun k => spec_ckCheck.f k (bt s (l.length : Int))) c ∧ Ev (fun k => impl_Scheme_whole.f k m l s) (v + c, m) := by
  have hcut : (s.extract 0 l.length).size = l.length := by rw [ByteArray.size_extract]; omega
  obtain ⟨b, hb⟩ := bt_of (s := s) (i := l.length) (by omega)
  obtain ⟨v, v0, v1, e1, e2⟩ := sum_ev l hl hw s (s.extract 0 l.length) hcut (by omega) (fun i hi => bt_cut (by omega) hi) m
  have hc := chk_le b
  refine ⟨v, chk b, v0, v1, hc.1, hc.2, e1, by rw [hb]; exact ckCheck_ev b, ?_⟩
  unfold impl_Scheme_whole.f
  refine Ev.pos (by omega) (Ev.pos (by omega) ?_)
  rw [Int.toNat_natCast, hb]
  refine Ev.bind e2 (Ev.pos (by omega) (Ev.vbind (indexByte_f b) (Ev.val ?_)))
  rw [wrap_in (by omega) (by omega)]
end Go.Proofs.YtbkincjjafioaaaDoor.PA
