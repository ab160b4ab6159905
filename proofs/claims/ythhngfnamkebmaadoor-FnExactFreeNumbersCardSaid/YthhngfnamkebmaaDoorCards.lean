/-
  DERIVED. GIVEN WITH THE SEED: THE CARDS: each row of YthhngfnamkebmaaDoorRows.lean that lists a variable, with what it lists TIED to the program's text (the seventh form; the later family's looks); each row that meets fmt, with fmt's text TOLD by the authors' own Lean function (tested against real Go, not proved from fmt's source: count such statements apart). THE CARD IS WHAT COUNTS. Prove the row's statement (the work); the ties are given (YthhngfnamkebmaaDoorTie.lean); close each card by the builder's one call (the guide's Derived/Test/ToyasCard.lean, 'card_holds'). Laid BY PROGRAM, IN A SANDBOX (cutbox-door.mjs). By AI agents, Wed Nov 11 2026. No macro, syntax, notation, axiom, sorry.
-/
import Derived.Test.YthhngfnamkebmaaDoorRows
import GoSem.ClaimSeven
namespace Go.Proofs.YthhngfnamkebmaaDoor
namespace Rows

/-- THE TIED CARD OF 'laws.FnExactSharedStart'. -/
def fnExactSharedStartCard : Claim7 := { stood := { row := fnExactSharedStartRow, standIns := [], harness := (true, "056edb812f19c96cab29962b1b2ba27bc53a6377f1b894b3c74916e866808e83"), looks := false }, kinds := [], alts := [], laidByText := true, laidKinds := [.data, .pinned], laidTests := true, laidLooks := .later }
def FnExactSharedStartCardSaid : Prop := Claim7.holds Tryd.pinned (.plain (OpenSpec.ofChange fnExactSharedStartSpec)) fnExactSharedStartCard

/-- THE TIED CARD OF 'laws.FnExactIsCodePlan'. -/
def fnExactIsCodePlanCard : Claim7 := { stood := { row := fnExactIsCodePlanRow, standIns := [], harness := (true, "056edb812f19c96cab29962b1b2ba27bc53a6377f1b894b3c74916e866808e83"), looks := false }, kinds := [], alts := [], laidByText := true, laidKinds := [.data, .pinned], laidTests := true, laidLooks := .later }
def FnExactIsCodePlanCardSaid : Prop := Claim7.holds Tryd.pinned (.plain (OpenSpec.ofChange fnExactIsCodePlanSpec)) fnExactIsCodePlanCard

/-- THE TIED CARD OF 'laws.FnExactAreaOf'. -/
def fnExactAreaOfCard : Claim7 := { stood := { row := fnExactAreaOfRow, standIns := [], harness := (true, "056edb812f19c96cab29962b1b2ba27bc53a6377f1b894b3c74916e866808e83"), looks := false }, kinds := [], alts := [], laidByText := true, laidKinds := [.data, .pinned], laidTests := true, laidLooks := .later }
def FnExactAreaOfCardSaid : Prop := Claim7.holds Tryd.pinned (.plain (OpenSpec.ofChange fnExactAreaOfSpec)) fnExactAreaOfCard

/-- THE TIED CARD OF 'laws.FnExactIsFullPlan'. -/
def fnExactIsFullPlanCard : Claim7 := { stood := { row := fnExactIsFullPlanRow, standIns := [], harness := (true, "056edb812f19c96cab29962b1b2ba27bc53a6377f1b894b3c74916e866808e83"), looks := false }, kinds := [], alts := [], laidByText := true, laidKinds := [.data, .pinned], laidTests := true, laidLooks := .later }
def FnExactIsFullPlanCardSaid : Prop := Claim7.holds Tryd.pinned (.plain (OpenSpec.ofChange fnExactIsFullPlanSpec)) fnExactIsFullPlanCard

/-- THE TIED CARD OF 'laws.FnExactPartOf'. -/
def fnExactPartOfCard : Claim7 := { stood := { row := fnExactPartOfRow, standIns := [], harness := (true, "056edb812f19c96cab29962b1b2ba27bc53a6377f1b894b3c74916e866808e83"), looks := false }, kinds := [], alts := [], laidByText := true, laidKinds := [.data, .pinned], laidTests := true, laidLooks := .later }
def FnExactPartOfCardSaid : Prop := Claim7.holds Tryd.pinned (.plain (OpenSpec.ofChange fnExactPartOfSpec)) fnExactPartOfCard

/-- THE TIED CARD OF 'laws.FnExactNumbersIn'. -/
def fnExactNumbersInCard : Claim7 := { stood := { row := fnExactNumbersInRow, standIns := [], harness := (true, "056edb812f19c96cab29962b1b2ba27bc53a6377f1b894b3c74916e866808e83"), looks := false }, kinds := [], alts := [], laidByText := true, laidKinds := [.data, .pinned], laidTests := true, laidLooks := .later }
def FnExactNumbersInCardSaid : Prop := Claim7.holds Tryd.pinned (.plain (OpenSpec.ofChange fnExactNumbersInSpec)) fnExactNumbersInCard

/-- THE TIED CARD OF 'laws.FnExactFreeNumbers'. -/
def fnExactFreeNumbersCard : Claim7 := { stood := { row := fnExactFreeNumbersRow, standIns := [], harness := (true, "056edb812f19c96cab29962b1b2ba27bc53a6377f1b894b3c74916e866808e83"), looks := false }, kinds := [], alts := [], laidByText := true, laidKinds := [.data, .pinned], laidTests := true, laidLooks := .later }
def FnExactFreeNumbersCardSaid : Prop := Claim7.holds Tryd.pinned (.plain (OpenSpec.ofChange fnExactFreeNumbersSpec)) fnExactFreeNumbersCard

/-- THE TIED CARD OF 'laws.FnExactCountFreeCodes'. -/
def fnExactCountFreeCodesCard : Claim7 := { stood := { row := fnExactCountFreeCodesRow, standIns := [], harness := (true, "056edb812f19c96cab29962b1b2ba27bc53a6377f1b894b3c74916e866808e83"), looks := false }, kinds := [], alts := [], laidByText := true, laidKinds := [.data, .pinned], laidTests := true, laidLooks := .later }
def FnExactCountFreeCodesCardSaid : Prop := Claim7.holds Tryd.pinned (.plain (OpenSpec.ofChange fnExactCountFreeCodesSpec)) fnExactCountFreeCodesCard

/-- THE TIED CARD OF 'laws.FnExactCodePlanText'. -/
def fnExactCodePlanTextCard : Claim7 := { stood := { row := fnExactCodePlanTextRow, standIns := [], harness := (true, "056edb812f19c96cab29962b1b2ba27bc53a6377f1b894b3c74916e866808e83"), looks := false }, kinds := [], alts := [], laidByText := true, laidKinds := [.data, .pinned], laidTests := true, laidLooks := .later }
def FnExactCodePlanTextCardSaid : Prop := Claim7.holds Tryd.pinned (.plain (OpenSpec.ofChange fnExactCodePlanTextSpec)) fnExactCodePlanTextCard

/-- THE SECOND FORM's CARD OF 'laws.FnExactSharedStart'. -/
def fnExactSharedStartUptoCard : Claim7 := { stood := { row := fnExactSharedStartUptoRow, standIns := [], harness := (true, "056edb812f19c96cab29962b1b2ba27bc53a6377f1b894b3c74916e866808e83"), looks := false }, kinds := [], alts := [], laidByText := true, laidKinds := [.data, .pinned], laidTests := true, laidLooks := .later }
def FnExactSharedStartUptoCardSaid : Prop := Claim7.holds Tryd.pinned (.plain (OpenSpec.upto fnExactSharedStartSpec)) fnExactSharedStartUptoCard

/-- THE SECOND FORM's CARD OF 'laws.FnExactIsCodePlan'. -/
def fnExactIsCodePlanUptoCard : Claim7 := { stood := { row := fnExactIsCodePlanUptoRow, standIns := [], harness := (true, "056edb812f19c96cab29962b1b2ba27bc53a6377f1b894b3c74916e866808e83"), looks := false }, kinds := [], alts := [], laidByText := true, laidKinds := [.data, .pinned], laidTests := true, laidLooks := .later }
def FnExactIsCodePlanUptoCardSaid : Prop := Claim7.holds Tryd.pinned (.plain (OpenSpec.upto fnExactIsCodePlanSpec)) fnExactIsCodePlanUptoCard

/-- THE SECOND FORM's CARD OF 'laws.FnExactAreaOf'. -/
def fnExactAreaOfUptoCard : Claim7 := { stood := { row := fnExactAreaOfUptoRow, standIns := [], harness := (true, "056edb812f19c96cab29962b1b2ba27bc53a6377f1b894b3c74916e866808e83"), looks := false }, kinds := [], alts := [], laidByText := true, laidKinds := [.data, .pinned], laidTests := true, laidLooks := .later }
def FnExactAreaOfUptoCardSaid : Prop := Claim7.holds Tryd.pinned (.plain (OpenSpec.upto fnExactAreaOfSpec)) fnExactAreaOfUptoCard

/-- THE SECOND FORM's CARD OF 'laws.FnExactIsFullPlan'. -/
def fnExactIsFullPlanUptoCard : Claim7 := { stood := { row := fnExactIsFullPlanUptoRow, standIns := [], harness := (true, "056edb812f19c96cab29962b1b2ba27bc53a6377f1b894b3c74916e866808e83"), looks := false }, kinds := [], alts := [], laidByText := true, laidKinds := [.data, .pinned], laidTests := true, laidLooks := .later }
def FnExactIsFullPlanUptoCardSaid : Prop := Claim7.holds Tryd.pinned (.plain (OpenSpec.upto fnExactIsFullPlanSpec)) fnExactIsFullPlanUptoCard

/-- THE SECOND FORM's CARD OF 'laws.FnExactPartOf'. -/
def fnExactPartOfUptoCard : Claim7 := { stood := { row := fnExactPartOfUptoRow, standIns := [], harness := (true, "056edb812f19c96cab29962b1b2ba27bc53a6377f1b894b3c74916e866808e83"), looks := false }, kinds := [], alts := [], laidByText := true, laidKinds := [.data, .pinned], laidTests := true, laidLooks := .later }
def FnExactPartOfUptoCardSaid : Prop := Claim7.holds Tryd.pinned (.plain (OpenSpec.upto fnExactPartOfSpec)) fnExactPartOfUptoCard

/-- THE SECOND FORM's CARD OF 'laws.FnExactNumbersIn'. -/
def fnExactNumbersInUptoCard : Claim7 := { stood := { row := fnExactNumbersInUptoRow, standIns := [], harness := (true, "056edb812f19c96cab29962b1b2ba27bc53a6377f1b894b3c74916e866808e83"), looks := false }, kinds := [], alts := [], laidByText := true, laidKinds := [.data, .pinned], laidTests := true, laidLooks := .later }
def FnExactNumbersInUptoCardSaid : Prop := Claim7.holds Tryd.pinned (.plain (OpenSpec.upto fnExactNumbersInSpec)) fnExactNumbersInUptoCard

/-- THE SECOND FORM's CARD OF 'laws.FnExactFreeNumbers'. -/
def fnExactFreeNumbersUptoCard : Claim7 := { stood := { row := fnExactFreeNumbersUptoRow, standIns := [], harness := (true, "056edb812f19c96cab29962b1b2ba27bc53a6377f1b894b3c74916e866808e83"), looks := false }, kinds := [], alts := [], laidByText := true, laidKinds := [.data, .pinned], laidTests := true, laidLooks := .later }
def FnExactFreeNumbersUptoCardSaid : Prop := Claim7.holds Tryd.pinned (.plain (OpenSpec.upto fnExactFreeNumbersSpec)) fnExactFreeNumbersUptoCard

/-- THE SECOND FORM's CARD OF 'laws.FnExactCountFreeCodes'. -/
def fnExactCountFreeCodesUptoCard : Claim7 := { stood := { row := fnExactCountFreeCodesUptoRow, standIns := [], harness := (true, "056edb812f19c96cab29962b1b2ba27bc53a6377f1b894b3c74916e866808e83"), looks := false }, kinds := [], alts := [], laidByText := true, laidKinds := [.data, .pinned], laidTests := true, laidLooks := .later }
def FnExactCountFreeCodesUptoCardSaid : Prop := Claim7.holds Tryd.pinned (.plain (OpenSpec.upto fnExactCountFreeCodesSpec)) fnExactCountFreeCodesUptoCard

/-- THE SECOND FORM's CARD OF 'laws.FnExactCodePlanText'. -/
def fnExactCodePlanTextUptoCard : Claim7 := { stood := { row := fnExactCodePlanTextUptoRow, standIns := [], harness := (true, "056edb812f19c96cab29962b1b2ba27bc53a6377f1b894b3c74916e866808e83"), looks := false }, kinds := [], alts := [], laidByText := true, laidKinds := [.data, .pinned], laidTests := true, laidLooks := .later }
def FnExactCodePlanTextUptoCardSaid : Prop := Claim7.holds Tryd.pinned (.plain (OpenSpec.upto fnExactCodePlanTextSpec)) fnExactCodePlanTextUptoCard
end Rows
end Go.Proofs.YthhngfnamkebmaaDoor
