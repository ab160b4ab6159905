/-
  DERIVED. GIVEN WITH THE SEED: THE CARDS: each row of YtkplbgeccaadeaaGreatDoorRows.lean that lists a variable, with what it lists TIED to the program's text (the seventh form; the later family's looks); each row that meets fmt, with fmt's text TOLD by the authors' own Lean function (tested against real Go, not proved from fmt's source: count such statements apart). THE CARD IS WHAT COUNTS. Prove the row's statement (the work); the ties are given (YtkplbgeccaadeaaGreatDoorTie.lean); close each card by the builder's one call (the guide's Derived/Test/ToyasCard.lean, 'card_holds'). Laid BY PROGRAM, IN A SANDBOX (cutbox-door.mjs). By AI agents, Wed Nov 11 2026. No macro, syntax, notation, axiom, sorry.
-/
import Derived.Test.YtkplbgeccaadeaaGreatDoorRows
import GoSem.ClaimSeven
namespace Go.Proofs.YtkplbgeccaadeaaGreatDoor
namespace Rows

/-- THE TIED CARD OF 'laws.FnChecksFound'. -/
def fnChecksFoundCard : Claim7 := { stood := { row := fnChecksFoundRow, standIns := [], harness := (true, "629a38379255025cba51b5d9c9374c655f6690d2189cbda347b93afe03934190"), looks := true }, kinds := [], alts := [], laidByText := true, laidKinds := [.data, .pinned], laidTests := true, laidLooks := .later }
def FnChecksFoundCardSaid : Prop := Claim7.holds Tryz.pinned (.plain (OpenSpec.ofChange fnChecksFoundSpec)) fnChecksFoundCard

/-- THE TIED CARD OF 'laws.FnChecksDoubled'. -/
def fnChecksDoubledCard : Claim7 := { stood := { row := fnChecksDoubledRow, standIns := [], harness := (true, "629a38379255025cba51b5d9c9374c655f6690d2189cbda347b93afe03934190"), looks := true }, kinds := [], alts := [], laidByText := true, laidKinds := [.data, .data, .data, .data, .sentinel, .sentinel, .pinned], laidTests := true, laidLooks := .later }
def FnChecksDoubledCardSaid : Prop := Claim7.holds Tryz.pinned (.plain (OpenSpec.ofChange fnChecksDoubledSpec)) fnChecksDoubledCard

/-- THE SECOND FORM's CARD OF 'laws.FnChecksFound'. -/
def fnChecksFoundUptoCard : Claim7 := { stood := { row := fnChecksFoundUptoRow, standIns := [], harness := (true, "629a38379255025cba51b5d9c9374c655f6690d2189cbda347b93afe03934190"), looks := true }, kinds := [], alts := [], laidByText := true, laidKinds := [.data, .pinned], laidTests := true, laidLooks := .later }
def FnChecksFoundUptoCardSaid : Prop := Claim7.holds Tryz.pinned (.plain (OpenSpec.upto fnChecksFoundSpec)) fnChecksFoundUptoCard

/-- THE SECOND FORM's CARD OF 'laws.FnChecksDoubled'. -/
def fnChecksDoubledUptoCard : Claim7 := { stood := { row := fnChecksDoubledUptoRow, standIns := [], harness := (true, "629a38379255025cba51b5d9c9374c655f6690d2189cbda347b93afe03934190"), looks := true }, kinds := [], alts := [], laidByText := true, laidKinds := [.data, .data, .data, .data, .sentinel, .sentinel, .pinned], laidTests := true, laidLooks := .later }
def FnChecksDoubledUptoCardSaid : Prop := Claim7.holds Tryz.pinned (.plain (OpenSpec.upto fnChecksDoubledSpec)) fnChecksDoubledUptoCard
end Rows
end Go.Proofs.YtkplbgeccaadeaaGreatDoor
