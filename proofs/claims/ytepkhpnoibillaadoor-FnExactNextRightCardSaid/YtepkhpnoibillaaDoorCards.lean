/-
  DERIVED. GIVEN WITH THE SEED: THE CARDS: each row of YtepkhpnoibillaaDoorRows.lean that lists a variable, with what it lists TIED to the program's text (the seventh form; the later family's looks); each row that meets fmt, with fmt's text TOLD by the authors' own Lean function (tested against real Go, not proved from fmt's source: count such statements apart). THE CARD IS WHAT COUNTS. Prove the row's statement (the work); the ties are given (YtepkhpnoibillaaDoorTie.lean); close each card by the builder's one call (the guide's Derived/Test/ToyasCard.lean, 'card_holds'). Laid BY PROGRAM, IN A SANDBOX (cutbox-door.mjs). By AI agents, Wed Nov 11 2026. No macro, syntax, notation, axiom, sorry.
-/
import Derived.Test.YtepkhpnoibillaaDoorRows
import GoSem.ClaimSeven
namespace Go.Proofs.YtepkhpnoibillaaDoor
namespace Rows

/-- THE TIED CARD OF 'laws.FnExactNextRight'. -/
def fnExactNextRightCard : Claim7 := { stood := { row := fnExactNextRightRow, standIns := [], harness := (true, "7ce4e94570e07291cf0ba805fff99fd33cf28070ce12cacbcd7db3f3ad77c888"), looks := true }, kinds := [], alts := [], laidByText := true, laidKinds := [.data, .pinned], laidTests := true, laidLooks := .later }
def FnExactNextRightCardSaid : Prop := Claim7.holds Tryd.pinned (.plain (OpenSpec.ofChange fnExactNextRightSpec)) fnExactNextRightCard

/-- THE TIED CARD OF 'laws.FnExactLostDigit'. -/
def fnExactLostDigitCard : Claim7 := { stood := { row := fnExactLostDigitRow, standIns := [], harness := (true, "7ce4e94570e07291cf0ba805fff99fd33cf28070ce12cacbcd7db3f3ad77c888"), looks := true }, kinds := [], alts := [], laidByText := true, laidKinds := [.data, .pinned], laidTests := true, laidLooks := .later }
def FnExactLostDigitCardSaid : Prop := Claim7.holds Tryd.pinned (.plain (OpenSpec.ofChange fnExactLostDigitSpec)) fnExactLostDigitCard

/-- THE TIED CARD OF 'laws.FnExactSwapRepairs'. -/
def fnExactSwapRepairsCard : Claim7 := { stood := { row := fnExactSwapRepairsRow, standIns := [], harness := (true, "7ce4e94570e07291cf0ba805fff99fd33cf28070ce12cacbcd7db3f3ad77c888"), looks := true }, kinds := [], alts := [], laidByText := true, laidKinds := [.data, .pinned], laidTests := true, laidLooks := .later }
def FnExactSwapRepairsCardSaid : Prop := Claim7.holds Tryd.pinned (.plain (OpenSpec.ofChange fnExactSwapRepairsSpec)) fnExactSwapRepairsCard

/-- THE TIED CARD OF 'laws.FnExactRepairsOf'. -/
def fnExactRepairsOfCard : Claim7 := { stood := { row := fnExactRepairsOfRow, standIns := [], harness := (true, "7ce4e94570e07291cf0ba805fff99fd33cf28070ce12cacbcd7db3f3ad77c888"), looks := true }, kinds := [], alts := [], laidByText := true, laidKinds := [.data, .pinned], laidTests := true, laidLooks := .later }
def FnExactRepairsOfCardSaid : Prop := Claim7.holds Tryd.pinned (.plain (OpenSpec.ofChange fnExactRepairsOfSpec)) fnExactRepairsOfCard

/-- THE TIED CARD OF 'laws.FnExactParseScheme'. -/
def fnExactParseSchemeCard : Claim7 := { stood := { row := fnExactParseSchemeRow, standIns := [], harness := (true, "7ce4e94570e07291cf0ba805fff99fd33cf28070ce12cacbcd7db3f3ad77c888"), looks := true }, kinds := [], alts := [], laidByText := true, laidKinds := [.data, .data, .data, .data, .sentinel, .sentinel, .pinned], laidTests := true, laidLooks := .later }
def FnExactParseSchemeCardSaid : Prop := Claim7.holds Tryd.pinned (.plain (OpenSpec.ofChange fnExactParseSchemeSpec)) fnExactParseSchemeCard

/-- THE SECOND FORM's CARD OF 'laws.FnExactNextRight'. -/
def fnExactNextRightUptoCard : Claim7 := { stood := { row := fnExactNextRightUptoRow, standIns := [], harness := (true, "7ce4e94570e07291cf0ba805fff99fd33cf28070ce12cacbcd7db3f3ad77c888"), looks := true }, kinds := [], alts := [], laidByText := true, laidKinds := [.data, .pinned], laidTests := true, laidLooks := .later }
def FnExactNextRightUptoCardSaid : Prop := Claim7.holds Tryd.pinned (.plain (OpenSpec.upto fnExactNextRightSpec)) fnExactNextRightUptoCard

/-- THE SECOND FORM's CARD OF 'laws.FnExactLostDigit'. -/
def fnExactLostDigitUptoCard : Claim7 := { stood := { row := fnExactLostDigitUptoRow, standIns := [], harness := (true, "7ce4e94570e07291cf0ba805fff99fd33cf28070ce12cacbcd7db3f3ad77c888"), looks := true }, kinds := [], alts := [], laidByText := true, laidKinds := [.data, .pinned], laidTests := true, laidLooks := .later }
def FnExactLostDigitUptoCardSaid : Prop := Claim7.holds Tryd.pinned (.plain (OpenSpec.upto fnExactLostDigitSpec)) fnExactLostDigitUptoCard

/-- THE SECOND FORM's CARD OF 'laws.FnExactSwapRepairs'. -/
def fnExactSwapRepairsUptoCard : Claim7 := { stood := { row := fnExactSwapRepairsUptoRow, standIns := [], harness := (true, "7ce4e94570e07291cf0ba805fff99fd33cf28070ce12cacbcd7db3f3ad77c888"), looks := true }, kinds := [], alts := [], laidByText := true, laidKinds := [.data, .pinned], laidTests := true, laidLooks := .later }
def FnExactSwapRepairsUptoCardSaid : Prop := Claim7.holds Tryd.pinned (.plain (OpenSpec.upto fnExactSwapRepairsSpec)) fnExactSwapRepairsUptoCard

/-- THE SECOND FORM's CARD OF 'laws.FnExactRepairsOf'. -/
def fnExactRepairsOfUptoCard : Claim7 := { stood := { row := fnExactRepairsOfUptoRow, standIns := [], harness := (true, "7ce4e94570e07291cf0ba805fff99fd33cf28070ce12cacbcd7db3f3ad77c888"), looks := true }, kinds := [], alts := [], laidByText := true, laidKinds := [.data, .pinned], laidTests := true, laidLooks := .later }
def FnExactRepairsOfUptoCardSaid : Prop := Claim7.holds Tryd.pinned (.plain (OpenSpec.upto fnExactRepairsOfSpec)) fnExactRepairsOfUptoCard

/-- THE SECOND FORM's CARD OF 'laws.FnExactParseScheme'. -/
def fnExactParseSchemeUptoCard : Claim7 := { stood := { row := fnExactParseSchemeUptoRow, standIns := [], harness := (true, "7ce4e94570e07291cf0ba805fff99fd33cf28070ce12cacbcd7db3f3ad77c888"), looks := true }, kinds := [], alts := [], laidByText := true, laidKinds := [.data, .data, .data, .data, .sentinel, .sentinel, .pinned], laidTests := true, laidLooks := .later }
def FnExactParseSchemeUptoCardSaid : Prop := Claim7.holds Tryd.pinned (.plain (OpenSpec.upto fnExactParseSchemeSpec)) fnExactParseSchemeUptoCard
end Rows
end Go.Proofs.YtepkhpnoibillaaDoor
