/-
  DERIVED. GIVEN WITH THE SEED: THE CARDS: each row of YtphdlbdmdokfaaaDoorRows.lean that lists a variable, with what it lists TIED to the program's text (the seventh form; the later family's looks); each row that meets fmt, with fmt's text TOLD by the authors' own Lean function (tested against real Go, not proved from fmt's source: count such statements apart). THE CARD IS WHAT COUNTS. Prove the row's statement (the work); the ties are given (YtphdlbdmdokfaaaDoorTie.lean); close each card by the builder's one call (the guide's Derived/Test/ToyasCard.lean, 'card_holds'). Laid BY PROGRAM, IN A SANDBOX (cutbox-door.mjs). By AI agents, Wed Nov 11 2026. No macro, syntax, notation, axiom, sorry.
-/
import Derived.Test.YtphdlbdmdokfaaaDoorRows
import GoSem.ClaimSeven
namespace Go.Proofs.YtphdlbdmdokfaaaDoor
namespace Rows

/-- THE TIED CARD OF 'laws.FnExactConflictsOf'. -/
def fnExactConflictsOfCard : Claim7 := { stood := { row := fnExactConflictsOfRow, standIns := [], harness := (true, "537e68143cb861d98696eb567a001748a40c7330b2253b16b41767a5ce784b46"), looks := false }, kinds := [], alts := [], laidByText := true, laidKinds := [.data, .pinned], laidTests := true, laidLooks := .later }
def FnExactConflictsOfCardSaid : Prop := Claim7.holds Tryd.pinned (.plain (OpenSpec.ofChange fnExactConflictsOfSpec)) fnExactConflictsOfCard

/-- THE TIED CARD OF 'laws.FnExactDropCode'. -/
def fnExactDropCodeCard : Claim7 := { stood := { row := fnExactDropCodeRow, standIns := [], harness := (true, "537e68143cb861d98696eb567a001748a40c7330b2253b16b41767a5ce784b46"), looks := false }, kinds := [], alts := [], laidByText := true, laidKinds := [.data, .pinned], laidTests := true, laidLooks := .later }
def FnExactDropCodeCardSaid : Prop := Claim7.holds Tryd.pinned (.plain (OpenSpec.ofChange fnExactDropCodeSpec)) fnExactDropCodeCard

/-- THE TIED CARD OF 'laws.FnExactParseCodePlan'. -/
def fnExactParseCodePlanCard : Claim7 := { stood := { row := fnExactParseCodePlanRow, standIns := [], harness := (true, "537e68143cb861d98696eb567a001748a40c7330b2253b16b41767a5ce784b46"), looks := false }, kinds := [], alts := [], laidByText := true, laidKinds := [.data, .pinned], laidTests := true, laidLooks := .later }
def FnExactParseCodePlanCardSaid : Prop := Claim7.holds Tryd.pinned (.plain (OpenSpec.ofChange fnExactParseCodePlanSpec)) fnExactParseCodePlanCard

/-- THE TIED CARD OF 'laws.FnExactFirstFreeCode'. -/
def fnExactFirstFreeCodeCard : Claim7 := { stood := { row := fnExactFirstFreeCodeRow, standIns := [], harness := (true, "537e68143cb861d98696eb567a001748a40c7330b2253b16b41767a5ce784b46"), looks := false }, kinds := [], alts := [], laidByText := true, laidKinds := [.data, .pinned], laidTests := true, laidLooks := .later }
def FnExactFirstFreeCodeCardSaid : Prop := Claim7.holds Tryd.pinned (.plain (OpenSpec.ofChange fnExactFirstFreeCodeSpec)) fnExactFirstFreeCodeCard

/-- THE TIED CARD OF 'laws.FnExactMakePlan'. -/
def fnExactMakePlanCard : Claim7 := { stood := { row := fnExactMakePlanRow, standIns := [], harness := (true, "537e68143cb861d98696eb567a001748a40c7330b2253b16b41767a5ce784b46"), looks := false }, kinds := [], alts := [], laidByText := true, laidKinds := [.data, .pinned], laidTests := true, laidLooks := .later }
def FnExactMakePlanCardSaid : Prop := Claim7.holds Tryd.pinned (.plain (OpenSpec.ofChange fnExactMakePlanSpec)) fnExactMakePlanCard

/-- THE TIED CARD OF 'laws.FnExactLengthsOf'. -/
def fnExactLengthsOfCard : Claim7 := { stood := { row := fnExactLengthsOfRow, standIns := [], harness := (true, "537e68143cb861d98696eb567a001748a40c7330b2253b16b41767a5ce784b46"), looks := false }, kinds := [], alts := [], laidByText := true, laidKinds := [.data, .pinned], laidTests := true, laidLooks := .later }
def FnExactLengthsOfCardSaid : Prop := Claim7.holds Tryd.pinned (.plain (OpenSpec.ofChange fnExactLengthsOfSpec)) fnExactLengthsOfCard

/-- THE TIED CARD OF 'laws.FnExactAddCode'. -/
def fnExactAddCodeCard : Claim7 := { stood := { row := fnExactAddCodeRow, standIns := [], harness := (true, "537e68143cb861d98696eb567a001748a40c7330b2253b16b41767a5ce784b46"), looks := false }, kinds := [], alts := [], laidByText := true, laidKinds := [.data, .pinned], laidTests := true, laidLooks := .later }
def FnExactAddCodeCardSaid : Prop := Claim7.holds Tryd.pinned (.plain (OpenSpec.ofChange fnExactAddCodeSpec)) fnExactAddCodeCard

/-- THE TIED CARD OF 'laws.FnExactJoinCodes'. -/
def fnExactJoinCodesCard : Claim7 := { stood := { row := fnExactJoinCodesRow, standIns := [], harness := (true, "537e68143cb861d98696eb567a001748a40c7330b2253b16b41767a5ce784b46"), looks := false }, kinds := [], alts := [], laidByText := true, laidKinds := [.data, .pinned], laidTests := true, laidLooks := .later }
def FnExactJoinCodesCardSaid : Prop := Claim7.holds Tryd.pinned (.plain (OpenSpec.ofChange fnExactJoinCodesSpec)) fnExactJoinCodesCard

/-- THE TIED CARD OF 'laws.FnExactSplitCode'. -/
def fnExactSplitCodeCard : Claim7 := { stood := { row := fnExactSplitCodeRow, standIns := [], harness := (true, "537e68143cb861d98696eb567a001748a40c7330b2253b16b41767a5ce784b46"), looks := false }, kinds := [], alts := [], laidByText := true, laidKinds := [.data, .pinned], laidTests := true, laidLooks := .later }
def FnExactSplitCodeCardSaid : Prop := Claim7.holds Tryd.pinned (.plain (OpenSpec.ofChange fnExactSplitCodeSpec)) fnExactSplitCodeCard

/-- THE SECOND FORM's CARD OF 'laws.FnExactConflictsOf'. -/
def fnExactConflictsOfUptoCard : Claim7 := { stood := { row := fnExactConflictsOfUptoRow, standIns := [], harness := (true, "537e68143cb861d98696eb567a001748a40c7330b2253b16b41767a5ce784b46"), looks := false }, kinds := [], alts := [], laidByText := true, laidKinds := [.data, .pinned], laidTests := true, laidLooks := .later }
def FnExactConflictsOfUptoCardSaid : Prop := Claim7.holds Tryd.pinned (.plain (OpenSpec.upto fnExactConflictsOfSpec)) fnExactConflictsOfUptoCard

/-- THE SECOND FORM's CARD OF 'laws.FnExactDropCode'. -/
def fnExactDropCodeUptoCard : Claim7 := { stood := { row := fnExactDropCodeUptoRow, standIns := [], harness := (true, "537e68143cb861d98696eb567a001748a40c7330b2253b16b41767a5ce784b46"), looks := false }, kinds := [], alts := [], laidByText := true, laidKinds := [.data, .pinned], laidTests := true, laidLooks := .later }
def FnExactDropCodeUptoCardSaid : Prop := Claim7.holds Tryd.pinned (.plain (OpenSpec.upto fnExactDropCodeSpec)) fnExactDropCodeUptoCard

/-- THE SECOND FORM's CARD OF 'laws.FnExactParseCodePlan'. -/
def fnExactParseCodePlanUptoCard : Claim7 := { stood := { row := fnExactParseCodePlanUptoRow, standIns := [], harness := (true, "537e68143cb861d98696eb567a001748a40c7330b2253b16b41767a5ce784b46"), looks := false }, kinds := [], alts := [], laidByText := true, laidKinds := [.data, .pinned], laidTests := true, laidLooks := .later }
def FnExactParseCodePlanUptoCardSaid : Prop := Claim7.holds Tryd.pinned (.plain (OpenSpec.upto fnExactParseCodePlanSpec)) fnExactParseCodePlanUptoCard

/-- THE SECOND FORM's CARD OF 'laws.FnExactFirstFreeCode'. -/
def fnExactFirstFreeCodeUptoCard : Claim7 := { stood := { row := fnExactFirstFreeCodeUptoRow, standIns := [], harness := (true, "537e68143cb861d98696eb567a001748a40c7330b2253b16b41767a5ce784b46"), looks := false }, kinds := [], alts := [], laidByText := true, laidKinds := [.data, .pinned], laidTests := true, laidLooks := .later }
def FnExactFirstFreeCodeUptoCardSaid : Prop := Claim7.holds Tryd.pinned (.plain (OpenSpec.upto fnExactFirstFreeCodeSpec)) fnExactFirstFreeCodeUptoCard

/-- THE SECOND FORM's CARD OF 'laws.FnExactMakePlan'. -/
def fnExactMakePlanUptoCard : Claim7 := { stood := { row := fnExactMakePlanUptoRow, standIns := [], harness := (true, "537e68143cb861d98696eb567a001748a40c7330b2253b16b41767a5ce784b46"), looks := false }, kinds := [], alts := [], laidByText := true, laidKinds := [.data, .pinned], laidTests := true, laidLooks := .later }
def FnExactMakePlanUptoCardSaid : Prop := Claim7.holds Tryd.pinned (.plain (OpenSpec.upto fnExactMakePlanSpec)) fnExactMakePlanUptoCard

/-- THE SECOND FORM's CARD OF 'laws.FnExactLengthsOf'. -/
def fnExactLengthsOfUptoCard : Claim7 := { stood := { row := fnExactLengthsOfUptoRow, standIns := [], harness := (true, "537e68143cb861d98696eb567a001748a40c7330b2253b16b41767a5ce784b46"), looks := false }, kinds := [], alts := [], laidByText := true, laidKinds := [.data, .pinned], laidTests := true, laidLooks := .later }
def FnExactLengthsOfUptoCardSaid : Prop := Claim7.holds Tryd.pinned (.plain (OpenSpec.upto fnExactLengthsOfSpec)) fnExactLengthsOfUptoCard

/-- THE SECOND FORM's CARD OF 'laws.FnExactAddCode'. -/
def fnExactAddCodeUptoCard : Claim7 := { stood := { row := fnExactAddCodeUptoRow, standIns := [], harness := (true, "537e68143cb861d98696eb567a001748a40c7330b2253b16b41767a5ce784b46"), looks := false }, kinds := [], alts := [], laidByText := true, laidKinds := [.data, .pinned], laidTests := true, laidLooks := .later }
def FnExactAddCodeUptoCardSaid : Prop := Claim7.holds Tryd.pinned (.plain (OpenSpec.upto fnExactAddCodeSpec)) fnExactAddCodeUptoCard

/-- THE SECOND FORM's CARD OF 'laws.FnExactJoinCodes'. -/
def fnExactJoinCodesUptoCard : Claim7 := { stood := { row := fnExactJoinCodesUptoRow, standIns := [], harness := (true, "537e68143cb861d98696eb567a001748a40c7330b2253b16b41767a5ce784b46"), looks := false }, kinds := [], alts := [], laidByText := true, laidKinds := [.data, .pinned], laidTests := true, laidLooks := .later }
def FnExactJoinCodesUptoCardSaid : Prop := Claim7.holds Tryd.pinned (.plain (OpenSpec.upto fnExactJoinCodesSpec)) fnExactJoinCodesUptoCard

/-- THE SECOND FORM's CARD OF 'laws.FnExactSplitCode'. -/
def fnExactSplitCodeUptoCard : Claim7 := { stood := { row := fnExactSplitCodeUptoRow, standIns := [], harness := (true, "537e68143cb861d98696eb567a001748a40c7330b2253b16b41767a5ce784b46"), looks := false }, kinds := [], alts := [], laidByText := true, laidKinds := [.data, .pinned], laidTests := true, laidLooks := .later }
def FnExactSplitCodeUptoCardSaid : Prop := Claim7.holds Tryd.pinned (.plain (OpenSpec.upto fnExactSplitCodeSpec)) fnExactSplitCodeUptoCard
end Rows
end Go.Proofs.YtphdlbdmdokfaaaDoor
