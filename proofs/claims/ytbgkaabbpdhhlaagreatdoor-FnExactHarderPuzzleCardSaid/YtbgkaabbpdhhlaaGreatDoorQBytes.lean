/- Facts about every byte, checked byte by byte. No condition. -/
import Derived.Test.YtbgkaabbpdhhlaaGreatDoorPAx0
import Derived.Test.YtbgkaabbpdhhlaaGreatDoorQIn
namespace Go.Proofs.YtbgkaabbpdhhlaaGreatDoor.PA
open Go.RowKit Go.Proofs.YtbgkaabbpdhhlaaGreatDoorW.PrintWords
set_option linter.unusedVariables false

theorem byte_all {p : UInt8 → Prop} (h : ∀ n : Fin 256, p (UInt8.ofNat n.val)) (c : UInt8) : p c := by
  have := h ⟨c.toNat, c.toNat_lt⟩
  simpa using this
theorem byte_nat {p : Nat → UInt8 → Prop} (h : ∀ n : Fin 256, p n.val (UInt8.ofNat n.val)) (c : UInt8) : p c.toNat c := by
  have := h ⟨c.toNat, c.toNat_lt⟩
  simpa using this
/-- more rounds tell the same -/
theorem Ev.at {α : Type} {g : Nat → Option α} (m : ∀ k, LeO (g k) (g (k + 1))) {n : Nat} {r : α} (h : g n = some r) : Ev g r := by
  refine ⟨n, fun k hk => ?_⟩
  have := leO_add m h (k - n)
  rwa [show n + (k - n) = k by omega] at this
end Go.Proofs.YtbgkaabbpdhhlaaGreatDoor.PA
