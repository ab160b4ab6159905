/-
  DERIVED. GIVEN WITH THE SEED: THE CARDS: each row of YtbkincjjafioaaaDoorRows.lean that lists a variable, with what it lists TIED to the program's text (the seventh form; the later family's looks); each row that meets fmt, with fmt's text TOLD by the authors' own Lean function (tested against real Go, not proved from fmt's source: count such statements apart). THE CARD IS WHAT COUNTS. Prove the row's statement (the work); the ties are given (YtbkincjjafioaaaDoorTie.lean); close each card by the builder's one call (the guide's Derived/Test/ToyasCard.lean, 'card_holds'). Laid BY PROGRAM, IN A SANDBOX (cutbox-door.mjs). By AI agents, Wed Nov 11 2026. No macro, syntax, notation, axiom, sorry.
-/
import Derived.Test.YtbkincjjafioaaaDoorRows
import GoSem.ClaimSeven
namespace Go.Proofs.YtbkincjjafioaaaDoor
namespace Rows

/-- THE TIED CARD OF 'laws.FnExactDoubledSum'. -/
def fnExactDoubledSumCard : Claim7 := { stood := { row := fnExactDoubledSumRow, standIns := [], harness := (true, "7b3d74794891da29bf36f21b8530c76f532bb7347d0ddd72b07f90f9cf27bade"), looks := false }, kinds := [], alts := [], laidByText := true, laidKinds := [.data, .pinned], laidTests := true, laidLooks := .later }
def FnExactDoubledSumCardSaid : Prop := Claim7.holds Tryd.pinned (.plain (OpenSpec.ofChange fnExactDoubledSumSpec)) fnExactDoubledSumCard

/-- THE TIED CARD OF 'laws.FnExactDoubledCheck'. -/
def fnExactDoubledCheckCard : Claim7 := { stood := { row := fnExactDoubledCheckRow, standIns := [], harness := (true, "7b3d74794891da29bf36f21b8530c76f532bb7347d0ddd72b07f90f9cf27bade"), looks := false }, kinds := [], alts := [], laidByText := true, laidKinds := [.data, .pinned], laidTests := true, laidLooks := .later }
def FnExactDoubledCheckCardSaid : Prop := Claim7.holds Tryd.pinned (.plain (OpenSpec.ofChange fnExactDoubledCheckSpec)) fnExactDoubledCheckCard

/-- THE TIED CARD OF 'laws.FnExactIsDoubledRight'. -/
def fnExactIsDoubledRightCard : Claim7 := { stood := { row := fnExactIsDoubledRightRow, standIns := [], harness := (true, "7b3d74794891da29bf36f21b8530c76f532bb7347d0ddd72b07f90f9cf27bade"), looks := false }, kinds := [], alts := [], laidByText := true, laidKinds := [.data, .pinned], laidTests := true, laidLooks := .later }
def FnExactIsDoubledRightCardSaid : Prop := Claim7.holds Tryd.pinned (.plain (OpenSpec.ofChange fnExactIsDoubledRightSpec)) fnExactIsDoubledRightCard

/-- THE TIED CARD OF 'laws.FnExactSchemeText'. -/
def fnExactSchemeTextCard : Claim7 := { stood := { row := fnExactSchemeTextRow, standIns := [], harness := (true, "7b3d74794891da29bf36f21b8530c76f532bb7347d0ddd72b07f90f9cf27bade"), looks := false }, kinds := [], alts := [], laidByText := true, laidKinds := [.data, .data, .data], laidTests := true, laidLooks := .later }
def FnExactSchemeTextCardSaid : Prop := Claim7.holds Tryd.pinned (.plain (OpenSpec.ofChange fnExactSchemeTextSpec)) fnExactSchemeTextCard

/-- THE TIED CARD OF 'laws.FnExactCheckOf'. -/
def fnExactCheckOfCard : Claim7 := { stood := { row := fnExactCheckOfRow, standIns := [], harness := (true, "7b3d74794891da29bf36f21b8530c76f532bb7347d0ddd72b07f90f9cf27bade"), looks := false }, kinds := [], alts := [], laidByText := true, laidKinds := [.data, .pinned], laidTests := true, laidLooks := .later }
def FnExactCheckOfCardSaid : Prop := Claim7.holds Tryd.pinned (.plain (OpenSpec.ofChange fnExactCheckOfSpec)) fnExactCheckOfCard

/-- THE TIED CARD OF 'laws.FnExactSumOfNumber'. -/
def fnExactSumOfNumberCard : Claim7 := { stood := { row := fnExactSumOfNumberRow, standIns := [], harness := (true, "7b3d74794891da29bf36f21b8530c76f532bb7347d0ddd72b07f90f9cf27bade"), looks := false }, kinds := [], alts := [], laidByText := true, laidKinds := [.data, .pinned], laidTests := true, laidLooks := .later }
def FnExactSumOfNumberCardSaid : Prop := Claim7.holds Tryd.pinned (.plain (OpenSpec.ofChange fnExactSumOfNumberSpec)) fnExactSumOfNumberCard

/-- THE TIED CARD OF 'laws.FnExactIsRight'. -/
def fnExactIsRightCard : Claim7 := { stood := { row := fnExactIsRightRow, standIns := [], harness := (true, "7b3d74794891da29bf36f21b8530c76f532bb7347d0ddd72b07f90f9cf27bade"), looks := false }, kinds := [], alts := [], laidByText := true, laidKinds := [.data, .pinned], laidTests := true, laidLooks := .later }
def FnExactIsRightCardSaid : Prop := Claim7.holds Tryd.pinned (.plain (OpenSpec.ofChange fnExactIsRightSpec)) fnExactIsRightCard

/-- THE TIED CARD OF 'laws.FnExactNextRight'. -/
def fnExactNextRightCard : Claim7 := { stood := { row := fnExactNextRightRow, standIns := [], harness := (true, "7b3d74794891da29bf36f21b8530c76f532bb7347d0ddd72b07f90f9cf27bade"), looks := false }, kinds := [], alts := [], laidByText := true, laidKinds := [.data, .pinned], laidTests := true, laidLooks := .later }
def FnExactNextRightCardSaid : Prop := Claim7.holds Tryd.pinned (.plain (OpenSpec.ofChange fnExactNextRightSpec)) fnExactNextRightCard

/-- THE SECOND FORM's CARD OF 'laws.FnExactDoubledSum'. -/
def fnExactDoubledSumUptoCard : Claim7 := { stood := { row := fnExactDoubledSumUptoRow, standIns := [], harness := (true, "7b3d74794891da29bf36f21b8530c76f532bb7347d0ddd72b07f90f9cf27bade"), looks := false }, kinds := [], alts := [], laidByText := true, laidKinds := [.data, .pinned], laidTests := true, laidLooks := .later }
def FnExactDoubledSumUptoCardSaid : Prop := Claim7.holds Tryd.pinned (.plain (OpenSpec.upto fnExactDoubledSumSpec)) fnExactDoubledSumUptoCard

/-- THE SECOND FORM's CARD OF 'laws.FnExactDoubledCheck'. -/
def fnExactDoubledCheckUptoCard : Claim7 := { stood := { row := fnExactDoubledCheckUptoRow, standIns := [], harness := (true, "7b3d74794891da29bf36f21b8530c76f532bb7347d0ddd72b07f90f9cf27bade"), looks := false }, kinds := [], alts := [], laidByText := true, laidKinds := [.data, .pinned], laidTests := true, laidLooks := .later }
def FnExactDoubledCheckUptoCardSaid : Prop := Claim7.holds Tryd.pinned (.plain (OpenSpec.upto fnExactDoubledCheckSpec)) fnExactDoubledCheckUptoCard

/-- THE SECOND FORM's CARD OF 'laws.FnExactIsDoubledRight'. -/
def fnExactIsDoubledRightUptoCard : Claim7 := { stood := { row := fnExactIsDoubledRightUptoRow, standIns := [], harness := (true, "7b3d74794891da29bf36f21b8530c76f532bb7347d0ddd72b07f90f9cf27bade"), looks := false }, kinds := [], alts := [], laidByText := true, laidKinds := [.data, .pinned], laidTests := true, laidLooks := .later }
def FnExactIsDoubledRightUptoCardSaid : Prop := Claim7.holds Tryd.pinned (.plain (OpenSpec.upto fnExactIsDoubledRightSpec)) fnExactIsDoubledRightUptoCard

/-- THE SECOND FORM's CARD OF 'laws.FnExactSchemeText'. -/
def fnExactSchemeTextUptoCard : Claim7 := { stood := { row := fnExactSchemeTextUptoRow, standIns := [], harness := (true, "7b3d74794891da29bf36f21b8530c76f532bb7347d0ddd72b07f90f9cf27bade"), looks := false }, kinds := [], alts := [], laidByText := true, laidKinds := [.data, .data, .data], laidTests := true, laidLooks := .later }
def FnExactSchemeTextUptoCardSaid : Prop := Claim7.holds Tryd.pinned (.plain (OpenSpec.upto fnExactSchemeTextSpec)) fnExactSchemeTextUptoCard

/-- THE SECOND FORM's CARD OF 'laws.FnExactCheckOf'. -/
def fnExactCheckOfUptoCard : Claim7 := { stood := { row := fnExactCheckOfUptoRow, standIns := [], harness := (true, "7b3d74794891da29bf36f21b8530c76f532bb7347d0ddd72b07f90f9cf27bade"), looks := false }, kinds := [], alts := [], laidByText := true, laidKinds := [.data, .pinned], laidTests := true, laidLooks := .later }
def FnExactCheckOfUptoCardSaid : Prop := Claim7.holds Tryd.pinned (.plain (OpenSpec.upto fnExactCheckOfSpec)) fnExactCheckOfUptoCard

/-- THE SECOND FORM's CARD OF 'laws.FnExactSumOfNumber'. -/
def fnExactSumOfNumberUptoCard : Claim7 := { stood := { row := fnExactSumOfNumberUptoRow, standIns := [], harness := (true, "7b3d74794891da29bf36f21b8530c76f532bb7347d0ddd72b07f90f9cf27bade"), looks := false }, kinds := [], alts := [], laidByText := true, laidKinds := [.data, .pinned], laidTests := true, laidLooks := .later }
def FnExactSumOfNumberUptoCardSaid : Prop := Claim7.holds Tryd.pinned (.plain (OpenSpec.upto fnExactSumOfNumberSpec)) fnExactSumOfNumberUptoCard

/-- THE SECOND FORM's CARD OF 'laws.FnExactIsRight'. -/
def fnExactIsRightUptoCard : Claim7 := { stood := { row := fnExactIsRightUptoRow, standIns := [], harness := (true, "7b3d74794891da29bf36f21b8530c76f532bb7347d0ddd72b07f90f9cf27bade"), looks := false }, kinds := [], alts := [], laidByText := true, laidKinds := [.data, .pinned], laidTests := true, laidLooks := .later }
def FnExactIsRightUptoCardSaid : Prop := Claim7.holds Tryd.pinned (.plain (OpenSpec.upto fnExactIsRightSpec)) fnExactIsRightUptoCard

/-- THE SECOND FORM's CARD OF 'laws.FnExactNextRight'. -/
def fnExactNextRightUptoCard : Claim7 := { stood := { row := fnExactNextRightUptoRow, standIns := [], harness := (true, "7b3d74794891da29bf36f21b8530c76f532bb7347d0ddd72b07f90f9cf27bade"), looks := false }, kinds := [], alts := [], laidByText := true, laidKinds := [.data, .pinned], laidTests := true, laidLooks := .later }
def FnExactNextRightUptoCardSaid : Prop := Claim7.holds Tryd.pinned (.plain (OpenSpec.upto fnExactNextRightSpec)) fnExactNextRightUptoCard
end Rows
end Go.Proofs.YtbkincjjafioaaaDoor
