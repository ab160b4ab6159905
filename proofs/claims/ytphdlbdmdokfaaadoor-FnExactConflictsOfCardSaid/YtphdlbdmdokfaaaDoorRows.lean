/-
  NARROWER THAN 'FOR EVERY INPUT', by the rows' own cells (each row's printed sentence says how): FnExactConflictsOf: laid · FnExactDropCode: laid · FnExactParseCodePlan: laid · FnExactFirstFreeCode: laid · FnExactMakePlan: laid · FnExactLengthsOf: laid · FnExactAddCode: laid · FnExactJoinCodes: laid · FnExactSplitCode: laid.
  DERIVED. THE GIVEN ROWS OF THIS SEAT. 9 by the template 'for every input the law returns true; each argument reads behind the call as it read before'; 0 by the template 'total and deterministic' (their statements: YtphdlbdmdokfaaaDoorTotals.lean).
  GIVEN WITH THE SEED: the statements are not yours to turn. If you find one false, say at which input.
  Laid BY PROGRAM, IN A SANDBOX (cutbox-rows.mjs): the forced cells as the released guide's own fill.sh prints them over the translation 453391adf7d14d90… (all of the seat's roots in one cut). By AI agents, Wed Nov 11 2026. No macro, syntax, notation, axiom, sorry.
-/
import Derived.Test.YtphdlbdmdokfaaaDoorChecked
import GoSem.PinnedTables
import GoSem.Claim
import GoSem.ClaimJoined
import GoSem.ClaimMapViews
import Derived.JoinedTies
import Derived.KernelRfl
namespace Go.Proofs.YtphdlbdmdokfaaaDoor
/- THE CELL 'sum', in the pinned program and in every row, IS THE sha256 OF THE DUMP (.gsa) THAT YtphdlbdmdokfaaaDoorProg.lean LOADS. Nothing in Lean hashes anything: it is a label: what it is worth is what the hold of that sum in a sandbox is worth. -/
noncomputable def Tryd.pinned : Pinned := { name := "ytphdlbdmdokfaaadoor", sum := "453391adf7d14d90e9e967d2654d06c07ebba2f47ab419b948cb5d78c59d4f9b", checked := Tryd.checked }
namespace Rows
def none {H : Type} : Left H := { results := [], args := [] }

/- WHAT THE LISTED PACKAGE-LEVEL VARIABLES READ AS WHEN THE CALL BEGINS. Each datum BY PROGRAM (the guide's laid-datum.mjs) off the statement by which the dump's own 'gosem.cut.vars' lays the variable. In a bare row this is a premise. The card (YtphdlbdmdokfaaaDoorCards.lean) ties it to the program's text. -/
def laid_unicode_utf8_acceptRanges {H : Type} : DataW H := .agg [.agg [.lit (.int .u8 128), .lit (.int .u8 191)], .agg [.lit (.int .u8 160), .lit (.int .u8 191)], .agg [.lit (.int .u8 128), .lit (.int .u8 159)], .agg [.lit (.int .u8 144), .lit (.int .u8 191)], .agg [.lit (.int .u8 128), .lit (.int .u8 143)], .agg [.lit (.int .u8 0), .lit (.int .u8 0)], .agg [.lit (.int .u8 0), .lit (.int .u8 0)], .agg [.lit (.int .u8 0), .lit (.int .u8 0)], .agg [.lit (.int .u8 0), .lit (.int .u8 0)], .agg [.lit (.int .u8 0), .lit (.int .u8 0)], .agg [.lit (.int .u8 0), .lit (.int .u8 0)], .agg [.lit (.int .u8 0), .lit (.int .u8 0)], .agg [.lit (.int .u8 0), .lit (.int .u8 0)], .agg [.lit (.int .u8 0), .lit (.int .u8 0)], .agg [.lit (.int .u8 0), .lit (.int .u8 0)], .agg [.lit (.int .u8 0), .lit (.int .u8 0)]]
/-- One of Go's own tables, pinned by name: the form's constant. -/
def laid_unicode_utf8_first : DataW Unit := Go.Pinned.utf8First

/-- 'laws.FnExactConflictsOf': WHATEVER THE INPUT: true; the input reads as it did. -/
def fnExactConflictsOfSpec : ChangeSpec := { name := "fnExactConflictsOf", fn := fun _ => fun
  | [d] => { results := [.lit (.bool true)], args := [d] }
  | _ => none }
def fnExactConflictsOfRow : OpenClaim := { program := "ytphdlbdmdokfaaadoor", sum := "453391adf7d14d90e9e967d2654d06c07ebba2f47ab419b948cb5d78c59d4f9b", func := "loop.example/g01350/laws.FnExactConflictsOf", spec := "fnExactConflictsOf", inPlace := ["internal/bytealg.IndexByteString", "internal/bytealg.IndexString"], unfollowed := true, recurses := true, named := ["unicode/utf8.first", "unicode/utf8.acceptRanges", "internal/bytealg.MaxLen"], apart := false, laid := [("unicode/utf8.acceptRanges", laid_unicode_utf8_acceptRanges), ("unicode/utf8.first", laid_unicode_utf8_first)] }
def FnExactConflictsOfSaid : Prop := fnExactConflictsOfRow.holds Tryd.pinned (OpenSpec.ofChange fnExactConflictsOfSpec)

/-- ITS FALSE NEIGHBOUR: 'it returns false'. Refute it at one input. -/
def fnExactConflictsOfWrong : ChangeSpec := { name := "fnExactConflictsOf", fn := fun _ => fun
  | [d] => { results := [.lit (.bool false)], args := [d] }
  | _ => none }
def FnExactConflictsOfWrongFalsely : Prop := fnExactConflictsOfRow.holds Tryd.pinned (OpenSpec.ofChange fnExactConflictsOfWrong)

/-- 'laws.FnExactDropCode': WHATEVER THE INPUT: true; the input reads as it did. -/
def fnExactDropCodeSpec : ChangeSpec := { name := "fnExactDropCode", fn := fun _ => fun
  | [d1, d2] => { results := [.lit (.bool true)], args := [d1, d2] }
  | _ => none }
def fnExactDropCodeRow : OpenClaim := { program := "ytphdlbdmdokfaaadoor", sum := "453391adf7d14d90e9e967d2654d06c07ebba2f47ab419b948cb5d78c59d4f9b", func := "loop.example/g01350/laws.FnExactDropCode", spec := "fnExactDropCode", inPlace := ["internal/bytealg.IndexByteString", "internal/bytealg.IndexString"], unfollowed := true, recurses := true, named := ["unicode/utf8.first", "unicode/utf8.acceptRanges", "internal/bytealg.MaxLen"], apart := false, laid := [("unicode/utf8.acceptRanges", laid_unicode_utf8_acceptRanges), ("unicode/utf8.first", laid_unicode_utf8_first)] }
def FnExactDropCodeSaid : Prop := fnExactDropCodeRow.holds Tryd.pinned (OpenSpec.ofChange fnExactDropCodeSpec)

/-- ITS FALSE NEIGHBOUR: 'it returns false'. Refute it at one input. -/
def fnExactDropCodeWrong : ChangeSpec := { name := "fnExactDropCode", fn := fun _ => fun
  | [d1, d2] => { results := [.lit (.bool false)], args := [d1, d2] }
  | _ => none }
def FnExactDropCodeWrongFalsely : Prop := fnExactDropCodeRow.holds Tryd.pinned (OpenSpec.ofChange fnExactDropCodeWrong)

/-- 'laws.FnExactParseCodePlan': WHATEVER THE INPUT: true; the input reads as it did. -/
def fnExactParseCodePlanSpec : ChangeSpec := { name := "fnExactParseCodePlan", fn := fun _ => fun
  | [d] => { results := [.lit (.bool true)], args := [d] }
  | _ => none }
def fnExactParseCodePlanRow : OpenClaim := { program := "ytphdlbdmdokfaaadoor", sum := "453391adf7d14d90e9e967d2654d06c07ebba2f47ab419b948cb5d78c59d4f9b", func := "loop.example/g01350/laws.FnExactParseCodePlan", spec := "fnExactParseCodePlan", inPlace := ["internal/bytealg.CountString", "internal/bytealg.IndexByteString", "internal/bytealg.IndexString"], named := ["unicode/utf8.first", "unicode/utf8.acceptRanges", "internal/bytealg.MaxLen"], apart := false, laid := [("unicode/utf8.acceptRanges", laid_unicode_utf8_acceptRanges), ("unicode/utf8.first", laid_unicode_utf8_first)] }
def FnExactParseCodePlanSaid : Prop := fnExactParseCodePlanRow.holds Tryd.pinned (OpenSpec.ofChange fnExactParseCodePlanSpec)

/-- ITS FALSE NEIGHBOUR: 'it returns false'. Refute it at one input. -/
def fnExactParseCodePlanWrong : ChangeSpec := { name := "fnExactParseCodePlan", fn := fun _ => fun
  | [d] => { results := [.lit (.bool false)], args := [d] }
  | _ => none }
def FnExactParseCodePlanWrongFalsely : Prop := fnExactParseCodePlanRow.holds Tryd.pinned (OpenSpec.ofChange fnExactParseCodePlanWrong)

/-- 'laws.FnExactFirstFreeCode': WHATEVER THE INPUT: true; the input reads as it did. -/
def fnExactFirstFreeCodeSpec : ChangeSpec := { name := "fnExactFirstFreeCode", fn := fun _ => fun
  | [d1, d2] => { results := [.lit (.bool true)], args := [d1, d2] }
  | _ => none }
def fnExactFirstFreeCodeRow : OpenClaim := { program := "ytphdlbdmdokfaaadoor", sum := "453391adf7d14d90e9e967d2654d06c07ebba2f47ab419b948cb5d78c59d4f9b", func := "loop.example/g01350/laws.FnExactFirstFreeCode", spec := "fnExactFirstFreeCode", inPlace := ["internal/bytealg.IndexByteString", "internal/bytealg.IndexString", "internal/abi.NoEscape", "internal/bytealg.MakeNoZero"], unfollowed := true, recurses := true, named := ["unicode/utf8.first", "unicode/utf8.acceptRanges", "internal/bytealg.MaxLen"], apart := false, laid := [("unicode/utf8.acceptRanges", laid_unicode_utf8_acceptRanges), ("unicode/utf8.first", laid_unicode_utf8_first)] }
def FnExactFirstFreeCodeSaid : Prop := fnExactFirstFreeCodeRow.holds Tryd.pinned (OpenSpec.ofChange fnExactFirstFreeCodeSpec)

/-- ITS FALSE NEIGHBOUR: 'it returns false'. Refute it at one input. -/
def fnExactFirstFreeCodeWrong : ChangeSpec := { name := "fnExactFirstFreeCode", fn := fun _ => fun
  | [d1, d2] => { results := [.lit (.bool false)], args := [d1, d2] }
  | _ => none }
def FnExactFirstFreeCodeWrongFalsely : Prop := fnExactFirstFreeCodeRow.holds Tryd.pinned (OpenSpec.ofChange fnExactFirstFreeCodeWrong)

/-- 'laws.FnExactMakePlan': WHATEVER THE INPUT: true; the input reads as it did. -/
def fnExactMakePlanSpec : ChangeSpec := { name := "fnExactMakePlan", fn := fun _ => fun
  | [d] => { results := [.lit (.bool true)], args := [d] }
  | _ => none }
def fnExactMakePlanRow : OpenClaim := { program := "ytphdlbdmdokfaaadoor", sum := "453391adf7d14d90e9e967d2654d06c07ebba2f47ab419b948cb5d78c59d4f9b", func := "loop.example/g01350/laws.FnExactMakePlan", spec := "fnExactMakePlan", inPlace := ["internal/bytealg.IndexByteString", "internal/bytealg.IndexString"], recurses := true, named := ["unicode/utf8.first", "unicode/utf8.acceptRanges", "internal/bytealg.MaxLen"], apart := false, laid := [("unicode/utf8.acceptRanges", laid_unicode_utf8_acceptRanges), ("unicode/utf8.first", laid_unicode_utf8_first)] }
def FnExactMakePlanSaid : Prop := fnExactMakePlanRow.holds Tryd.pinned (OpenSpec.ofChange fnExactMakePlanSpec)

/-- ITS FALSE NEIGHBOUR: 'it returns false'. Refute it at one input. -/
def fnExactMakePlanWrong : ChangeSpec := { name := "fnExactMakePlan", fn := fun _ => fun
  | [d] => { results := [.lit (.bool false)], args := [d] }
  | _ => none }
def FnExactMakePlanWrongFalsely : Prop := fnExactMakePlanRow.holds Tryd.pinned (OpenSpec.ofChange fnExactMakePlanWrong)

/-- 'laws.FnExactLengthsOf': WHATEVER THE INPUT: true; the input reads as it did. -/
def fnExactLengthsOfSpec : ChangeSpec := { name := "fnExactLengthsOf", fn := fun _ => fun
  | [d] => { results := [.lit (.bool true)], args := [d] }
  | _ => none }
def fnExactLengthsOfRow : OpenClaim := { program := "ytphdlbdmdokfaaadoor", sum := "453391adf7d14d90e9e967d2654d06c07ebba2f47ab419b948cb5d78c59d4f9b", func := "loop.example/g01350/laws.FnExactLengthsOf", spec := "fnExactLengthsOf", inPlace := ["internal/bytealg.IndexByteString", "internal/bytealg.IndexString"], unfollowed := true, recurses := true, named := ["unicode/utf8.first", "unicode/utf8.acceptRanges", "internal/bytealg.MaxLen"], apart := false, laid := [("unicode/utf8.acceptRanges", laid_unicode_utf8_acceptRanges), ("unicode/utf8.first", laid_unicode_utf8_first)] }
def FnExactLengthsOfSaid : Prop := fnExactLengthsOfRow.holds Tryd.pinned (OpenSpec.ofChange fnExactLengthsOfSpec)

/-- ITS FALSE NEIGHBOUR: 'it returns false'. Refute it at one input. -/
def fnExactLengthsOfWrong : ChangeSpec := { name := "fnExactLengthsOf", fn := fun _ => fun
  | [d] => { results := [.lit (.bool false)], args := [d] }
  | _ => none }
def FnExactLengthsOfWrongFalsely : Prop := fnExactLengthsOfRow.holds Tryd.pinned (OpenSpec.ofChange fnExactLengthsOfWrong)

/-- 'laws.FnExactAddCode': WHATEVER THE INPUT: true; the input reads as it did. -/
def fnExactAddCodeSpec : ChangeSpec := { name := "fnExactAddCode", fn := fun _ => fun
  | [d1, d2] => { results := [.lit (.bool true)], args := [d1, d2] }
  | _ => none }
def fnExactAddCodeRow : OpenClaim := { program := "ytphdlbdmdokfaaadoor", sum := "453391adf7d14d90e9e967d2654d06c07ebba2f47ab419b948cb5d78c59d4f9b", func := "loop.example/g01350/laws.FnExactAddCode", spec := "fnExactAddCode", inPlace := ["internal/bytealg.IndexByteString", "internal/bytealg.IndexString"], unfollowed := true, recurses := true, named := ["unicode/utf8.first", "unicode/utf8.acceptRanges", "internal/bytealg.MaxLen"], apart := false, laid := [("unicode/utf8.acceptRanges", laid_unicode_utf8_acceptRanges), ("unicode/utf8.first", laid_unicode_utf8_first)] }
def FnExactAddCodeSaid : Prop := fnExactAddCodeRow.holds Tryd.pinned (OpenSpec.ofChange fnExactAddCodeSpec)

/-- ITS FALSE NEIGHBOUR: 'it returns false'. Refute it at one input. -/
def fnExactAddCodeWrong : ChangeSpec := { name := "fnExactAddCode", fn := fun _ => fun
  | [d1, d2] => { results := [.lit (.bool false)], args := [d1, d2] }
  | _ => none }
def FnExactAddCodeWrongFalsely : Prop := fnExactAddCodeRow.holds Tryd.pinned (OpenSpec.ofChange fnExactAddCodeWrong)

/-- 'laws.FnExactJoinCodes': WHATEVER THE INPUT: true; the input reads as it did. -/
def fnExactJoinCodesSpec : ChangeSpec := { name := "fnExactJoinCodes", fn := fun _ => fun
  | [d1, d2] => { results := [.lit (.bool true)], args := [d1, d2] }
  | _ => none }
def fnExactJoinCodesRow : OpenClaim := { program := "ytphdlbdmdokfaaadoor", sum := "453391adf7d14d90e9e967d2654d06c07ebba2f47ab419b948cb5d78c59d4f9b", func := "loop.example/g01350/laws.FnExactJoinCodes", spec := "fnExactJoinCodes", inPlace := ["internal/bytealg.IndexByteString", "internal/bytealg.IndexString"], unfollowed := true, recurses := true, named := ["unicode/utf8.first", "unicode/utf8.acceptRanges", "internal/bytealg.MaxLen"], apart := false, laid := [("unicode/utf8.acceptRanges", laid_unicode_utf8_acceptRanges), ("unicode/utf8.first", laid_unicode_utf8_first)] }
def FnExactJoinCodesSaid : Prop := fnExactJoinCodesRow.holds Tryd.pinned (OpenSpec.ofChange fnExactJoinCodesSpec)

/-- ITS FALSE NEIGHBOUR: 'it returns false'. Refute it at one input. -/
def fnExactJoinCodesWrong : ChangeSpec := { name := "fnExactJoinCodes", fn := fun _ => fun
  | [d1, d2] => { results := [.lit (.bool false)], args := [d1, d2] }
  | _ => none }
def FnExactJoinCodesWrongFalsely : Prop := fnExactJoinCodesRow.holds Tryd.pinned (OpenSpec.ofChange fnExactJoinCodesWrong)

/-- 'laws.FnExactSplitCode': WHATEVER THE INPUT: true; the input reads as it did. -/
def fnExactSplitCodeSpec : ChangeSpec := { name := "fnExactSplitCode", fn := fun _ => fun
  | [d1, d2] => { results := [.lit (.bool true)], args := [d1, d2] }
  | _ => none }
def fnExactSplitCodeRow : OpenClaim := { program := "ytphdlbdmdokfaaadoor", sum := "453391adf7d14d90e9e967d2654d06c07ebba2f47ab419b948cb5d78c59d4f9b", func := "loop.example/g01350/laws.FnExactSplitCode", spec := "fnExactSplitCode", inPlace := ["internal/bytealg.IndexByteString", "internal/bytealg.IndexString"], unfollowed := true, recurses := true, named := ["unicode/utf8.first", "unicode/utf8.acceptRanges", "internal/bytealg.MaxLen"], apart := false, laid := [("unicode/utf8.acceptRanges", laid_unicode_utf8_acceptRanges), ("unicode/utf8.first", laid_unicode_utf8_first)] }
def FnExactSplitCodeSaid : Prop := fnExactSplitCodeRow.holds Tryd.pinned (OpenSpec.ofChange fnExactSplitCodeSpec)

/-- ITS FALSE NEIGHBOUR: 'it returns false'. Refute it at one input. -/
def fnExactSplitCodeWrong : ChangeSpec := { name := "fnExactSplitCode", fn := fun _ => fun
  | [d1, d2] => { results := [.lit (.bool false)], args := [d1, d2] }
  | _ => none }
def FnExactSplitCodeWrongFalsely : Prop := fnExactSplitCodeRow.holds Tryd.pinned (OpenSpec.ofChange fnExactSplitCodeWrong)

/- THE SECOND FORM. 'bulk': how many values and letters a reading holds, each counted each time it is reached (what is shared counts as often as it is met; a slice's spare places count too). A statement '..UptoSaid' is the law's where the arguments, and the package variables that the reading takes, are together of bulk at most 1048576: NARROWER than '..Said'. Prove '..Said' where nothing that the law and all that it calls make is longer than what came in: it says more and counts as full. Else prove '..UptoSaid'. A law counts once. -/
mutual
def uptoBulk {H : Type} : DataW H → Nat
  | .lit (.string bytes) => bytes.length + 1
  | .lit _ => 1
  | .nil => 1
  | .ptr d => uptoBulk d + 1
  | .slice elems spare => uptoBulkAll elems + uptoBulkAll spare + 1
  | .agg parts => uptoBulkAll parts + 1
  | .iface _ d => uptoBulk d + 1
  | .map entries => uptoBulkEntries entries + 1
  | .held _ => 1
def uptoBulkAll {H : Type} : List (DataW H) → Nat
  | [] => 0
  | d :: r => uptoBulk d + uptoBulkAll r
def uptoBulkEntries {H : Type} : List (Lit × DataW H) → Nat
  | [] => 0
  | x :: r => uptoBulkEntry x + uptoBulkEntries r
def uptoBulkEntry {H : Type} : Lit × DataW H → Nat
  | (.string bytes, d) => bytes.length + uptoBulk d + 1
  | (_, d) => uptoBulk d + 1
 end
def uptoSmall : (H : Type) → List (DataW H) → Bool := fun _ ds => decide (uptoBulkAll ds ≤ 1048576)
def OpenSpec.upto (s : _root_.Go.ChangeSpec) : _root_.Go.OpenSpec := { _root_.Go.OpenSpec.ofChange s with cond := some uptoSmall }

/-- 'laws.FnExactConflictsOf', WHERE WHAT IT READS IS OF BULK AT MOST 1048576: true; the input reads as it did. -/
def fnExactConflictsOfUptoRow : OpenClaim := { program := "ytphdlbdmdokfaaadoor", sum := "453391adf7d14d90e9e967d2654d06c07ebba2f47ab419b948cb5d78c59d4f9b", func := "loop.example/g01350/laws.FnExactConflictsOf", spec := "fnExactConflictsOf", inPlace := ["internal/bytealg.IndexByteString", "internal/bytealg.IndexString"], unfollowed := true, recurses := true, named := ["unicode/utf8.first", "unicode/utf8.acceptRanges", "internal/bytealg.MaxLen"], apart := false, laid := [("unicode/utf8.acceptRanges", laid_unicode_utf8_acceptRanges), ("unicode/utf8.first", laid_unicode_utf8_first)], narrowed := true }
def FnExactConflictsOfUptoSaid : Prop := fnExactConflictsOfUptoRow.holds Tryd.pinned (OpenSpec.upto fnExactConflictsOfSpec)

/-- 'laws.FnExactDropCode', WHERE WHAT IT READS IS OF BULK AT MOST 1048576: true; the input reads as it did. -/
def fnExactDropCodeUptoRow : OpenClaim := { program := "ytphdlbdmdokfaaadoor", sum := "453391adf7d14d90e9e967d2654d06c07ebba2f47ab419b948cb5d78c59d4f9b", func := "loop.example/g01350/laws.FnExactDropCode", spec := "fnExactDropCode", inPlace := ["internal/bytealg.IndexByteString", "internal/bytealg.IndexString"], unfollowed := true, recurses := true, named := ["unicode/utf8.first", "unicode/utf8.acceptRanges", "internal/bytealg.MaxLen"], apart := false, laid := [("unicode/utf8.acceptRanges", laid_unicode_utf8_acceptRanges), ("unicode/utf8.first", laid_unicode_utf8_first)], narrowed := true }
def FnExactDropCodeUptoSaid : Prop := fnExactDropCodeUptoRow.holds Tryd.pinned (OpenSpec.upto fnExactDropCodeSpec)

/-- 'laws.FnExactParseCodePlan', WHERE WHAT IT READS IS OF BULK AT MOST 1048576: true; the input reads as it did. -/
def fnExactParseCodePlanUptoRow : OpenClaim := { program := "ytphdlbdmdokfaaadoor", sum := "453391adf7d14d90e9e967d2654d06c07ebba2f47ab419b948cb5d78c59d4f9b", func := "loop.example/g01350/laws.FnExactParseCodePlan", spec := "fnExactParseCodePlan", inPlace := ["internal/bytealg.CountString", "internal/bytealg.IndexByteString", "internal/bytealg.IndexString"], named := ["unicode/utf8.first", "unicode/utf8.acceptRanges", "internal/bytealg.MaxLen"], apart := false, laid := [("unicode/utf8.acceptRanges", laid_unicode_utf8_acceptRanges), ("unicode/utf8.first", laid_unicode_utf8_first)], narrowed := true }
def FnExactParseCodePlanUptoSaid : Prop := fnExactParseCodePlanUptoRow.holds Tryd.pinned (OpenSpec.upto fnExactParseCodePlanSpec)

/-- 'laws.FnExactFirstFreeCode', WHERE WHAT IT READS IS OF BULK AT MOST 1048576: true; the input reads as it did. -/
def fnExactFirstFreeCodeUptoRow : OpenClaim := { program := "ytphdlbdmdokfaaadoor", sum := "453391adf7d14d90e9e967d2654d06c07ebba2f47ab419b948cb5d78c59d4f9b", func := "loop.example/g01350/laws.FnExactFirstFreeCode", spec := "fnExactFirstFreeCode", inPlace := ["internal/bytealg.IndexByteString", "internal/bytealg.IndexString", "internal/abi.NoEscape", "internal/bytealg.MakeNoZero"], unfollowed := true, recurses := true, named := ["unicode/utf8.first", "unicode/utf8.acceptRanges", "internal/bytealg.MaxLen"], apart := false, laid := [("unicode/utf8.acceptRanges", laid_unicode_utf8_acceptRanges), ("unicode/utf8.first", laid_unicode_utf8_first)], narrowed := true }
def FnExactFirstFreeCodeUptoSaid : Prop := fnExactFirstFreeCodeUptoRow.holds Tryd.pinned (OpenSpec.upto fnExactFirstFreeCodeSpec)

/-- 'laws.FnExactMakePlan', WHERE WHAT IT READS IS OF BULK AT MOST 1048576: true; the input reads as it did. -/
def fnExactMakePlanUptoRow : OpenClaim := { program := "ytphdlbdmdokfaaadoor", sum := "453391adf7d14d90e9e967d2654d06c07ebba2f47ab419b948cb5d78c59d4f9b", func := "loop.example/g01350/laws.FnExactMakePlan", spec := "fnExactMakePlan", inPlace := ["internal/bytealg.IndexByteString", "internal/bytealg.IndexString"], recurses := true, named := ["unicode/utf8.first", "unicode/utf8.acceptRanges", "internal/bytealg.MaxLen"], apart := false, laid := [("unicode/utf8.acceptRanges", laid_unicode_utf8_acceptRanges), ("unicode/utf8.first", laid_unicode_utf8_first)], narrowed := true }
def FnExactMakePlanUptoSaid : Prop := fnExactMakePlanUptoRow.holds Tryd.pinned (OpenSpec.upto fnExactMakePlanSpec)

/-- 'laws.FnExactLengthsOf', WHERE WHAT IT READS IS OF BULK AT MOST 1048576: true; the input reads as it did. -/
def fnExactLengthsOfUptoRow : OpenClaim := { program := "ytphdlbdmdokfaaadoor", sum := "453391adf7d14d90e9e967d2654d06c07ebba2f47ab419b948cb5d78c59d4f9b", func := "loop.example/g01350/laws.FnExactLengthsOf", spec := "fnExactLengthsOf", inPlace := ["internal/bytealg.IndexByteString", "internal/bytealg.IndexString"], unfollowed := true, recurses := true, named := ["unicode/utf8.first", "unicode/utf8.acceptRanges", "internal/bytealg.MaxLen"], apart := false, laid := [("unicode/utf8.acceptRanges", laid_unicode_utf8_acceptRanges), ("unicode/utf8.first", laid_unicode_utf8_first)], narrowed := true }
def FnExactLengthsOfUptoSaid : Prop := fnExactLengthsOfUptoRow.holds Tryd.pinned (OpenSpec.upto fnExactLengthsOfSpec)

/-- 'laws.FnExactAddCode', WHERE WHAT IT READS IS OF BULK AT MOST 1048576: true; the input reads as it did. -/
def fnExactAddCodeUptoRow : OpenClaim := { program := "ytphdlbdmdokfaaadoor", sum := "453391adf7d14d90e9e967d2654d06c07ebba2f47ab419b948cb5d78c59d4f9b", func := "loop.example/g01350/laws.FnExactAddCode", spec := "fnExactAddCode", inPlace := ["internal/bytealg.IndexByteString", "internal/bytealg.IndexString"], unfollowed := true, recurses := true, named := ["unicode/utf8.first", "unicode/utf8.acceptRanges", "internal/bytealg.MaxLen"], apart := false, laid := [("unicode/utf8.acceptRanges", laid_unicode_utf8_acceptRanges), ("unicode/utf8.first", laid_unicode_utf8_first)], narrowed := true }
def FnExactAddCodeUptoSaid : Prop := fnExactAddCodeUptoRow.holds Tryd.pinned (OpenSpec.upto fnExactAddCodeSpec)

/-- 'laws.FnExactJoinCodes', WHERE WHAT IT READS IS OF BULK AT MOST 1048576: true; the input reads as it did. -/
def fnExactJoinCodesUptoRow : OpenClaim := { program := "ytphdlbdmdokfaaadoor", sum := "453391adf7d14d90e9e967d2654d06c07ebba2f47ab419b948cb5d78c59d4f9b", func := "loop.example/g01350/laws.FnExactJoinCodes", spec := "fnExactJoinCodes", inPlace := ["internal/bytealg.IndexByteString", "internal/bytealg.IndexString"], unfollowed := true, recurses := true, named := ["unicode/utf8.first", "unicode/utf8.acceptRanges", "internal/bytealg.MaxLen"], apart := false, laid := [("unicode/utf8.acceptRanges", laid_unicode_utf8_acceptRanges), ("unicode/utf8.first", laid_unicode_utf8_first)], narrowed := true }
def FnExactJoinCodesUptoSaid : Prop := fnExactJoinCodesUptoRow.holds Tryd.pinned (OpenSpec.upto fnExactJoinCodesSpec)

/-- 'laws.FnExactSplitCode', WHERE WHAT IT READS IS OF BULK AT MOST 1048576: true; the input reads as it did. -/
def fnExactSplitCodeUptoRow : OpenClaim := { program := "ytphdlbdmdokfaaadoor", sum := "453391adf7d14d90e9e967d2654d06c07ebba2f47ab419b948cb5d78c59d4f9b", func := "loop.example/g01350/laws.FnExactSplitCode", spec := "fnExactSplitCode", inPlace := ["internal/bytealg.IndexByteString", "internal/bytealg.IndexString"], unfollowed := true, recurses := true, named := ["unicode/utf8.first", "unicode/utf8.acceptRanges", "internal/bytealg.MaxLen"], apart := false, laid := [("unicode/utf8.acceptRanges", laid_unicode_utf8_acceptRanges), ("unicode/utf8.first", laid_unicode_utf8_first)], narrowed := true }
def FnExactSplitCodeUptoSaid : Prop := fnExactSplitCodeUptoRow.holds Tryd.pinned (OpenSpec.upto fnExactSplitCodeSpec)

end Rows
end Go.Proofs.YtphdlbdmdokfaaaDoor
