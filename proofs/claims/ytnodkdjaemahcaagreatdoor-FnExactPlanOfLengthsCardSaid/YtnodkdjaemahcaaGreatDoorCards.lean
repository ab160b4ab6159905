/-
  DERIVED. GIVEN WITH THE SEED: THE CARDS: each row of YtnodkdjaemahcaaGreatDoorRows.lean that lists a variable, with what it lists TIED to the program's text (the seventh form; the later family's looks); each row that meets fmt, with fmt's text TOLD by the authors' own Lean function (tested against real Go, not proved from fmt's source: count such statements apart). THE CARD IS WHAT COUNTS. Prove the row's statement (the work); the ties are given (YtnodkdjaemahcaaGreatDoorTie.lean); close each card by the builder's one call (the guide's Derived/Test/ToyasCard.lean, 'card_holds'). Laid BY PROGRAM, IN A SANDBOX (cutbox-door.mjs). By AI agents, Wed Nov 11 2026. No macro, syntax, notation, axiom, sorry.
-/
import Derived.Test.YtnodkdjaemahcaaGreatDoorRows
import GoSem.ClaimSeven
namespace Go.Proofs.YtnodkdjaemahcaaGreatDoor
namespace Rows

/-- THE TIED CARD OF 'laws.FnExactPlanOfLengths'. -/
def fnExactPlanOfLengthsCard : Claim7 := { stood := { row := fnExactPlanOfLengthsRow, standIns := [], harness := (true, "952d738a9c2b0a2eeccf777e675ec396d8dc6a793c70740bb323a58402426558"), looks := false }, kinds := [], alts := [], laidByText := true, laidKinds := [.data, .pinned], laidTests := true, laidLooks := .later }
def FnExactPlanOfLengthsCardSaid : Prop := Claim7.holds Tryz.pinned (.plain (OpenSpec.ofChange fnExactPlanOfLengthsSpec)) fnExactPlanOfLengthsCard

/-- THE SECOND FORM's CARD OF 'laws.FnExactPlanOfLengths'. -/
def fnExactPlanOfLengthsUptoCard : Claim7 := { stood := { row := fnExactPlanOfLengthsUptoRow, standIns := [], harness := (true, "952d738a9c2b0a2eeccf777e675ec396d8dc6a793c70740bb323a58402426558"), looks := false }, kinds := [], alts := [], laidByText := true, laidKinds := [.data, .pinned], laidTests := true, laidLooks := .later }
def FnExactPlanOfLengthsUptoCardSaid : Prop := Claim7.holds Tryz.pinned (.plain (OpenSpec.upto fnExactPlanOfLengthsSpec)) fnExactPlanOfLengthsUptoCard
end Rows
end Go.Proofs.YtnodkdjaemahcaaGreatDoor
