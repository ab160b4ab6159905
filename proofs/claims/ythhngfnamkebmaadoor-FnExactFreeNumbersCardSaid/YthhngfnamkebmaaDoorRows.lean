/-
  NARROWER THAN 'FOR EVERY INPUT', by the rows' own cells (each row's printed sentence says how): FnExactSharedStart: laid · FnExactIsCodePlan: laid · FnExactAreaOf: laid · FnExactIsFullPlan: laid · FnExactPartOf: laid · FnExactNumbersIn: laid · FnExactFreeNumbers: laid · FnExactCountFreeCodes: laid · FnExactCodePlanText: laid.
  DERIVED. THE GIVEN ROWS OF THIS SEAT. 9 by the template 'for every input the law returns true; each argument reads behind the call as it read before'; 0 by the template 'total and deterministic' (their statements: YthhngfnamkebmaaDoorTotals.lean).
  GIVEN WITH THE SEED: the statements are not yours to turn. If you find one false, say at which input.
  Laid BY PROGRAM, IN A SANDBOX (cutbox-rows.mjs): the forced cells as the released guide's own fill.sh prints them over the translation 5ebf24bb38066070… (all of the seat's roots in one cut). By AI agents, Wed Nov 11 2026. No macro, syntax, notation, axiom, sorry.
-/
import Derived.Test.YthhngfnamkebmaaDoorChecked
import GoSem.PinnedTables
import GoSem.Claim
import GoSem.ClaimJoined
import GoSem.ClaimMapViews
import Derived.JoinedTies
import Derived.KernelRfl
namespace Go.Proofs.YthhngfnamkebmaaDoor
/- THE CELL 'sum', in the pinned program and in every row, IS THE sha256 OF THE DUMP (.gsa) THAT YthhngfnamkebmaaDoorProg.lean LOADS. Nothing in Lean hashes anything: it is a label: what it is worth is what the hold of that sum in a sandbox is worth. -/
noncomputable def Tryd.pinned : Pinned := { name := "ythhngfnamkebmaadoor", sum := "5ebf24bb3806607036a5f3f1caf0ff5a2f5693d2b38b8ff0ad30bef4ac517950", checked := Tryd.checked }
namespace Rows
def none {H : Type} : Left H := { results := [], args := [] }

/- WHAT THE LISTED PACKAGE-LEVEL VARIABLES READ AS WHEN THE CALL BEGINS. Each datum BY PROGRAM (the guide's laid-datum.mjs) off the statement by which the dump's own 'gosem.cut.vars' lays the variable. In a bare row this is a premise. The card (YthhngfnamkebmaaDoorCards.lean) ties it to the program's text. -/
def laid_unicode_utf8_acceptRanges {H : Type} : DataW H := .agg [.agg [.lit (.int .u8 128), .lit (.int .u8 191)], .agg [.lit (.int .u8 160), .lit (.int .u8 191)], .agg [.lit (.int .u8 128), .lit (.int .u8 159)], .agg [.lit (.int .u8 144), .lit (.int .u8 191)], .agg [.lit (.int .u8 128), .lit (.int .u8 143)], .agg [.lit (.int .u8 0), .lit (.int .u8 0)], .agg [.lit (.int .u8 0), .lit (.int .u8 0)], .agg [.lit (.int .u8 0), .lit (.int .u8 0)], .agg [.lit (.int .u8 0), .lit (.int .u8 0)], .agg [.lit (.int .u8 0), .lit (.int .u8 0)], .agg [.lit (.int .u8 0), .lit (.int .u8 0)], .agg [.lit (.int .u8 0), .lit (.int .u8 0)], .agg [.lit (.int .u8 0), .lit (.int .u8 0)], .agg [.lit (.int .u8 0), .lit (.int .u8 0)], .agg [.lit (.int .u8 0), .lit (.int .u8 0)], .agg [.lit (.int .u8 0), .lit (.int .u8 0)]]
/-- One of Go's own tables, pinned by name: the form's constant. -/
def laid_unicode_utf8_first : DataW Unit := Go.Pinned.utf8First

/-- 'laws.FnExactSharedStart': WHATEVER THE INPUT: true; the input reads as it did. -/
def fnExactSharedStartSpec : ChangeSpec := { name := "fnExactSharedStart", fn := fun _ => fun
  | [d1, d2] => { results := [.lit (.bool true)], args := [d1, d2] }
  | _ => none }
def fnExactSharedStartRow : OpenClaim := { program := "ythhngfnamkebmaadoor", sum := "5ebf24bb3806607036a5f3f1caf0ff5a2f5693d2b38b8ff0ad30bef4ac517950", func := "loop.example/g01350/laws.FnExactSharedStart", spec := "fnExactSharedStart", inPlace := ["internal/bytealg.IndexByteString", "internal/bytealg.IndexString"], named := ["unicode/utf8.first", "unicode/utf8.acceptRanges", "internal/bytealg.MaxLen"], apart := false, laid := [("unicode/utf8.acceptRanges", laid_unicode_utf8_acceptRanges), ("unicode/utf8.first", laid_unicode_utf8_first)] }
def FnExactSharedStartSaid : Prop := fnExactSharedStartRow.holds Tryd.pinned (OpenSpec.ofChange fnExactSharedStartSpec)

/-- ITS FALSE NEIGHBOUR: 'it returns false'. Refute it at one input. -/
def fnExactSharedStartWrong : ChangeSpec := { name := "fnExactSharedStart", fn := fun _ => fun
  | [d1, d2] => { results := [.lit (.bool false)], args := [d1, d2] }
  | _ => none }
def FnExactSharedStartWrongFalsely : Prop := fnExactSharedStartRow.holds Tryd.pinned (OpenSpec.ofChange fnExactSharedStartWrong)

/-- 'laws.FnExactIsCodePlan': WHATEVER THE INPUT: true; the input reads as it did. -/
def fnExactIsCodePlanSpec : ChangeSpec := { name := "fnExactIsCodePlan", fn := fun _ => fun
  | [d] => { results := [.lit (.bool true)], args := [d] }
  | _ => none }
def fnExactIsCodePlanRow : OpenClaim := { program := "ythhngfnamkebmaadoor", sum := "5ebf24bb3806607036a5f3f1caf0ff5a2f5693d2b38b8ff0ad30bef4ac517950", func := "loop.example/g01350/laws.FnExactIsCodePlan", spec := "fnExactIsCodePlan", inPlace := ["internal/bytealg.IndexByteString", "internal/bytealg.IndexString"], named := ["unicode/utf8.first", "unicode/utf8.acceptRanges", "internal/bytealg.MaxLen"], apart := false, laid := [("unicode/utf8.acceptRanges", laid_unicode_utf8_acceptRanges), ("unicode/utf8.first", laid_unicode_utf8_first)] }
def FnExactIsCodePlanSaid : Prop := fnExactIsCodePlanRow.holds Tryd.pinned (OpenSpec.ofChange fnExactIsCodePlanSpec)

/-- ITS FALSE NEIGHBOUR: 'it returns false'. Refute it at one input. -/
def fnExactIsCodePlanWrong : ChangeSpec := { name := "fnExactIsCodePlan", fn := fun _ => fun
  | [d] => { results := [.lit (.bool false)], args := [d] }
  | _ => none }
def FnExactIsCodePlanWrongFalsely : Prop := fnExactIsCodePlanRow.holds Tryd.pinned (OpenSpec.ofChange fnExactIsCodePlanWrong)

/-- 'laws.FnExactAreaOf': WHATEVER THE INPUT: true; the input reads as it did. -/
def fnExactAreaOfSpec : ChangeSpec := { name := "fnExactAreaOf", fn := fun _ => fun
  | [d1, d2] => { results := [.lit (.bool true)], args := [d1, d2] }
  | _ => none }
def fnExactAreaOfRow : OpenClaim := { program := "ythhngfnamkebmaadoor", sum := "5ebf24bb3806607036a5f3f1caf0ff5a2f5693d2b38b8ff0ad30bef4ac517950", func := "loop.example/g01350/laws.FnExactAreaOf", spec := "fnExactAreaOf", inPlace := ["internal/bytealg.IndexByteString", "internal/bytealg.IndexString"], unfollowed := true, recurses := true, named := ["unicode/utf8.first", "unicode/utf8.acceptRanges", "internal/bytealg.MaxLen"], apart := false, laid := [("unicode/utf8.acceptRanges", laid_unicode_utf8_acceptRanges), ("unicode/utf8.first", laid_unicode_utf8_first)] }
def FnExactAreaOfSaid : Prop := fnExactAreaOfRow.holds Tryd.pinned (OpenSpec.ofChange fnExactAreaOfSpec)

/-- ITS FALSE NEIGHBOUR: 'it returns false'. Refute it at one input. -/
def fnExactAreaOfWrong : ChangeSpec := { name := "fnExactAreaOf", fn := fun _ => fun
  | [d1, d2] => { results := [.lit (.bool false)], args := [d1, d2] }
  | _ => none }
def FnExactAreaOfWrongFalsely : Prop := fnExactAreaOfRow.holds Tryd.pinned (OpenSpec.ofChange fnExactAreaOfWrong)

/-- 'laws.FnExactIsFullPlan': WHATEVER THE INPUT: true; the input reads as it did. -/
def fnExactIsFullPlanSpec : ChangeSpec := { name := "fnExactIsFullPlan", fn := fun _ => fun
  | [d] => { results := [.lit (.bool true)], args := [d] }
  | _ => none }
def fnExactIsFullPlanRow : OpenClaim := { program := "ythhngfnamkebmaadoor", sum := "5ebf24bb3806607036a5f3f1caf0ff5a2f5693d2b38b8ff0ad30bef4ac517950", func := "loop.example/g01350/laws.FnExactIsFullPlan", spec := "fnExactIsFullPlan", inPlace := ["internal/bytealg.IndexByteString", "internal/bytealg.IndexString"], named := ["unicode/utf8.first", "unicode/utf8.acceptRanges", "internal/bytealg.MaxLen"], apart := false, laid := [("unicode/utf8.acceptRanges", laid_unicode_utf8_acceptRanges), ("unicode/utf8.first", laid_unicode_utf8_first)] }
def FnExactIsFullPlanSaid : Prop := fnExactIsFullPlanRow.holds Tryd.pinned (OpenSpec.ofChange fnExactIsFullPlanSpec)

/-- ITS FALSE NEIGHBOUR: 'it returns false'. Refute it at one input. -/
def fnExactIsFullPlanWrong : ChangeSpec := { name := "fnExactIsFullPlan", fn := fun _ => fun
  | [d] => { results := [.lit (.bool false)], args := [d] }
  | _ => none }
def FnExactIsFullPlanWrongFalsely : Prop := fnExactIsFullPlanRow.holds Tryd.pinned (OpenSpec.ofChange fnExactIsFullPlanWrong)

/-- 'laws.FnExactPartOf': WHATEVER THE INPUT: true; the input reads as it did. -/
def fnExactPartOfSpec : ChangeSpec := { name := "fnExactPartOf", fn := fun _ => fun
  | [d] => { results := [.lit (.bool true)], args := [d] }
  | _ => none }
def fnExactPartOfRow : OpenClaim := { program := "ythhngfnamkebmaadoor", sum := "5ebf24bb3806607036a5f3f1caf0ff5a2f5693d2b38b8ff0ad30bef4ac517950", func := "loop.example/g01350/laws.FnExactPartOf", spec := "fnExactPartOf", inPlace := ["internal/bytealg.IndexByteString", "internal/bytealg.IndexString"], named := ["unicode/utf8.first", "unicode/utf8.acceptRanges", "internal/bytealg.MaxLen"], apart := false, laid := [("unicode/utf8.acceptRanges", laid_unicode_utf8_acceptRanges), ("unicode/utf8.first", laid_unicode_utf8_first)] }
def FnExactPartOfSaid : Prop := fnExactPartOfRow.holds Tryd.pinned (OpenSpec.ofChange fnExactPartOfSpec)

/-- ITS FALSE NEIGHBOUR: 'it returns false'. Refute it at one input. -/
def fnExactPartOfWrong : ChangeSpec := { name := "fnExactPartOf", fn := fun _ => fun
  | [d] => { results := [.lit (.bool false)], args := [d] }
  | _ => none }
def FnExactPartOfWrongFalsely : Prop := fnExactPartOfRow.holds Tryd.pinned (OpenSpec.ofChange fnExactPartOfWrong)

/-- 'laws.FnExactNumbersIn': WHATEVER THE INPUT: true; the input reads as it did. -/
def fnExactNumbersInSpec : ChangeSpec := { name := "fnExactNumbersIn", fn := fun _ => fun
  | [d1, d2, d3] => { results := [.lit (.bool true)], args := [d1, d2, d3] }
  | _ => none }
def fnExactNumbersInRow : OpenClaim := { program := "ythhngfnamkebmaadoor", sum := "5ebf24bb3806607036a5f3f1caf0ff5a2f5693d2b38b8ff0ad30bef4ac517950", func := "loop.example/g01350/laws.FnExactNumbersIn", spec := "fnExactNumbersIn", inPlace := ["internal/bytealg.IndexByteString", "internal/bytealg.IndexString"], named := ["unicode/utf8.first", "unicode/utf8.acceptRanges", "internal/bytealg.MaxLen"], apart := false, laid := [("unicode/utf8.acceptRanges", laid_unicode_utf8_acceptRanges), ("unicode/utf8.first", laid_unicode_utf8_first)] }
def FnExactNumbersInSaid : Prop := fnExactNumbersInRow.holds Tryd.pinned (OpenSpec.ofChange fnExactNumbersInSpec)

/-- ITS FALSE NEIGHBOUR: 'it returns false'. Refute it at one input. -/
def fnExactNumbersInWrong : ChangeSpec := { name := "fnExactNumbersIn", fn := fun _ => fun
  | [d1, d2, d3] => { results := [.lit (.bool false)], args := [d1, d2, d3] }
  | _ => none }
def FnExactNumbersInWrongFalsely : Prop := fnExactNumbersInRow.holds Tryd.pinned (OpenSpec.ofChange fnExactNumbersInWrong)

/-- 'laws.FnExactFreeNumbers': WHATEVER THE INPUT: true; the input reads as it did. -/
def fnExactFreeNumbersSpec : ChangeSpec := { name := "fnExactFreeNumbers", fn := fun _ => fun
  | [d1, d2] => { results := [.lit (.bool true)], args := [d1, d2] }
  | _ => none }
def fnExactFreeNumbersRow : OpenClaim := { program := "ythhngfnamkebmaadoor", sum := "5ebf24bb3806607036a5f3f1caf0ff5a2f5693d2b38b8ff0ad30bef4ac517950", func := "loop.example/g01350/laws.FnExactFreeNumbers", spec := "fnExactFreeNumbers", inPlace := ["internal/bytealg.IndexByteString", "internal/bytealg.IndexString"], unfollowed := true, recurses := true, named := ["unicode/utf8.first", "unicode/utf8.acceptRanges", "internal/bytealg.MaxLen"], apart := false, laid := [("unicode/utf8.acceptRanges", laid_unicode_utf8_acceptRanges), ("unicode/utf8.first", laid_unicode_utf8_first)] }
def FnExactFreeNumbersSaid : Prop := fnExactFreeNumbersRow.holds Tryd.pinned (OpenSpec.ofChange fnExactFreeNumbersSpec)

/-- ITS FALSE NEIGHBOUR: 'it returns false'. Refute it at one input. -/
def fnExactFreeNumbersWrong : ChangeSpec := { name := "fnExactFreeNumbers", fn := fun _ => fun
  | [d1, d2] => { results := [.lit (.bool false)], args := [d1, d2] }
  | _ => none }
def FnExactFreeNumbersWrongFalsely : Prop := fnExactFreeNumbersRow.holds Tryd.pinned (OpenSpec.ofChange fnExactFreeNumbersWrong)

/-- 'laws.FnExactCountFreeCodes': WHATEVER THE INPUT: true; the input reads as it did. -/
def fnExactCountFreeCodesSpec : ChangeSpec := { name := "fnExactCountFreeCodes", fn := fun _ => fun
  | [d1, d2] => { results := [.lit (.bool true)], args := [d1, d2] }
  | _ => none }
def fnExactCountFreeCodesRow : OpenClaim := { program := "ythhngfnamkebmaadoor", sum := "5ebf24bb3806607036a5f3f1caf0ff5a2f5693d2b38b8ff0ad30bef4ac517950", func := "loop.example/g01350/laws.FnExactCountFreeCodes", spec := "fnExactCountFreeCodes", inPlace := ["internal/bytealg.IndexByteString", "internal/bytealg.IndexString"], named := ["unicode/utf8.first", "unicode/utf8.acceptRanges", "internal/bytealg.MaxLen"], apart := false, laid := [("unicode/utf8.acceptRanges", laid_unicode_utf8_acceptRanges), ("unicode/utf8.first", laid_unicode_utf8_first)] }
def FnExactCountFreeCodesSaid : Prop := fnExactCountFreeCodesRow.holds Tryd.pinned (OpenSpec.ofChange fnExactCountFreeCodesSpec)

/-- ITS FALSE NEIGHBOUR: 'it returns false'. Refute it at one input. -/
def fnExactCountFreeCodesWrong : ChangeSpec := { name := "fnExactCountFreeCodes", fn := fun _ => fun
  | [d1, d2] => { results := [.lit (.bool false)], args := [d1, d2] }
  | _ => none }
def FnExactCountFreeCodesWrongFalsely : Prop := fnExactCountFreeCodesRow.holds Tryd.pinned (OpenSpec.ofChange fnExactCountFreeCodesWrong)

/-- 'laws.FnExactCodePlanText': WHATEVER THE INPUT: true; the input reads as it did. -/
def fnExactCodePlanTextSpec : ChangeSpec := { name := "fnExactCodePlanText", fn := fun _ => fun
  | [d] => { results := [.lit (.bool true)], args := [d] }
  | _ => none }
def fnExactCodePlanTextRow : OpenClaim := { program := "ythhngfnamkebmaadoor", sum := "5ebf24bb3806607036a5f3f1caf0ff5a2f5693d2b38b8ff0ad30bef4ac517950", func := "loop.example/g01350/laws.FnExactCodePlanText", spec := "fnExactCodePlanText", inPlace := ["internal/bytealg.IndexByteString", "internal/bytealg.IndexString", "internal/abi.NoEscape", "internal/bytealg.MakeNoZero"], named := ["unicode/utf8.first", "unicode/utf8.acceptRanges", "internal/bytealg.MaxLen"], apart := false, laid := [("unicode/utf8.acceptRanges", laid_unicode_utf8_acceptRanges), ("unicode/utf8.first", laid_unicode_utf8_first)] }
def FnExactCodePlanTextSaid : Prop := fnExactCodePlanTextRow.holds Tryd.pinned (OpenSpec.ofChange fnExactCodePlanTextSpec)

/-- ITS FALSE NEIGHBOUR: 'it returns false'. Refute it at one input. -/
def fnExactCodePlanTextWrong : ChangeSpec := { name := "fnExactCodePlanText", fn := fun _ => fun
  | [d] => { results := [.lit (.bool false)], args := [d] }
  | _ => none }
def FnExactCodePlanTextWrongFalsely : Prop := fnExactCodePlanTextRow.holds Tryd.pinned (OpenSpec.ofChange fnExactCodePlanTextWrong)

/- THE SECOND FORM. 'bulk': how many values and letters a reading holds, each counted each time it is reached (what is shared counts as often as it is met; a slice's spare places count too). A statement '..UptoSaid' is the law's where the arguments, and the package variables that the reading takes, are together of bulk at most 1048576: NARROWER than '..Said'. Prove '..Said' where nothing that the law and all that it calls make is longer than what came in: it says more and counts as full. Else prove '..UptoSaid'. A law counts once. -/
mutual
def uptoBulk {H : Type} : DataW H → Nat
  | .lit (.string bytes) => bytes.length + 1
  | .lit _ => 1
  | .nil => 1
  | .ptr d => uptoBulk d + 1
  | .slice elems spare => uptoBulkAll elems + uptoBulkAll spare + 1
  | .agg parts => uptoBulkAll parts + 1
  | .iface _ d => uptoBulk d + 1
  | .map entries => uptoBulkEntries entries + 1
  | .held _ => 1
def uptoBulkAll {H : Type} : List (DataW H) → Nat
  | [] => 0
  | d :: r => uptoBulk d + uptoBulkAll r
def uptoBulkEntries {H : Type} : List (Lit × DataW H) → Nat
  | [] => 0
  | x :: r => uptoBulkEntry x + uptoBulkEntries r
def uptoBulkEntry {H : Type} : Lit × DataW H → Nat
  | (.string bytes, d) => bytes.length + uptoBulk d + 1
  | (_, d) => uptoBulk d + 1
 end
def uptoSmall : (H : Type) → List (DataW H) → Bool := fun _ ds => decide (uptoBulkAll ds ≤ 1048576)
def OpenSpec.upto (s : _root_.Go.ChangeSpec) : _root_.Go.OpenSpec := { _root_.Go.OpenSpec.ofChange s with cond := some uptoSmall }

/-- 'laws.FnExactSharedStart', WHERE WHAT IT READS IS OF BULK AT MOST 1048576: true; the input reads as it did. -/
def fnExactSharedStartUptoRow : OpenClaim := { program := "ythhngfnamkebmaadoor", sum := "5ebf24bb3806607036a5f3f1caf0ff5a2f5693d2b38b8ff0ad30bef4ac517950", func := "loop.example/g01350/laws.FnExactSharedStart", spec := "fnExactSharedStart", inPlace := ["internal/bytealg.IndexByteString", "internal/bytealg.IndexString"], named := ["unicode/utf8.first", "unicode/utf8.acceptRanges", "internal/bytealg.MaxLen"], apart := false, laid := [("unicode/utf8.acceptRanges", laid_unicode_utf8_acceptRanges), ("unicode/utf8.first", laid_unicode_utf8_first)], narrowed := true }
def FnExactSharedStartUptoSaid : Prop := fnExactSharedStartUptoRow.holds Tryd.pinned (OpenSpec.upto fnExactSharedStartSpec)

/-- 'laws.FnExactIsCodePlan', WHERE WHAT IT READS IS OF BULK AT MOST 1048576: true; the input reads as it did. -/
def fnExactIsCodePlanUptoRow : OpenClaim := { program := "ythhngfnamkebmaadoor", sum := "5ebf24bb3806607036a5f3f1caf0ff5a2f5693d2b38b8ff0ad30bef4ac517950", func := "loop.example/g01350/laws.FnExactIsCodePlan", spec := "fnExactIsCodePlan", inPlace := ["internal/bytealg.IndexByteString", "internal/bytealg.IndexString"], named := ["unicode/utf8.first", "unicode/utf8.acceptRanges", "internal/bytealg.MaxLen"], apart := false, laid := [("unicode/utf8.acceptRanges", laid_unicode_utf8_acceptRanges), ("unicode/utf8.first", laid_unicode_utf8_first)], narrowed := true }
def FnExactIsCodePlanUptoSaid : Prop := fnExactIsCodePlanUptoRow.holds Tryd.pinned (OpenSpec.upto fnExactIsCodePlanSpec)

/-- 'laws.FnExactAreaOf', WHERE WHAT IT READS IS OF BULK AT MOST 1048576: true; the input reads as it did. -/
def fnExactAreaOfUptoRow : OpenClaim := { program := "ythhngfnamkebmaadoor", sum := "5ebf24bb3806607036a5f3f1caf0ff5a2f5693d2b38b8ff0ad30bef4ac517950", func := "loop.example/g01350/laws.FnExactAreaOf", spec := "fnExactAreaOf", inPlace := ["internal/bytealg.IndexByteString", "internal/bytealg.IndexString"], unfollowed := true, recurses := true, named := ["unicode/utf8.first", "unicode/utf8.acceptRanges", "internal/bytealg.MaxLen"], apart := false, laid := [("unicode/utf8.acceptRanges", laid_unicode_utf8_acceptRanges), ("unicode/utf8.first", laid_unicode_utf8_first)], narrowed := true }
def FnExactAreaOfUptoSaid : Prop := fnExactAreaOfUptoRow.holds Tryd.pinned (OpenSpec.upto fnExactAreaOfSpec)

/-- 'laws.FnExactIsFullPlan', WHERE WHAT IT READS IS OF BULK AT MOST 1048576: true; the input reads as it did. -/
def fnExactIsFullPlanUptoRow : OpenClaim := { program := "ythhngfnamkebmaadoor", sum := "5ebf24bb3806607036a5f3f1caf0ff5a2f5693d2b38b8ff0ad30bef4ac517950", func := "loop.example/g01350/laws.FnExactIsFullPlan", spec := "fnExactIsFullPlan", inPlace := ["internal/bytealg.IndexByteString", "internal/bytealg.IndexString"], named := ["unicode/utf8.first", "unicode/utf8.acceptRanges", "internal/bytealg.MaxLen"], apart := false, laid := [("unicode/utf8.acceptRanges", laid_unicode_utf8_acceptRanges), ("unicode/utf8.first", laid_unicode_utf8_first)], narrowed := true }
def FnExactIsFullPlanUptoSaid : Prop := fnExactIsFullPlanUptoRow.holds Tryd.pinned (OpenSpec.upto fnExactIsFullPlanSpec)

/-- 'laws.FnExactPartOf', WHERE WHAT IT READS IS OF BULK AT MOST 1048576: true; the input reads as it did. -/
def fnExactPartOfUptoRow : OpenClaim := { program := "ythhngfnamkebmaadoor", sum := "5ebf24bb3806607036a5f3f1caf0ff5a2f5693d2b38b8ff0ad30bef4ac517950", func := "loop.example/g01350/laws.FnExactPartOf", spec := "fnExactPartOf", inPlace := ["internal/bytealg.IndexByteString", "internal/bytealg.IndexString"], named := ["unicode/utf8.first", "unicode/utf8.acceptRanges", "internal/bytealg.MaxLen"], apart := false, laid := [("unicode/utf8.acceptRanges", laid_unicode_utf8_acceptRanges), ("unicode/utf8.first", laid_unicode_utf8_first)], narrowed := true }
def FnExactPartOfUptoSaid : Prop := fnExactPartOfUptoRow.holds Tryd.pinned (OpenSpec.upto fnExactPartOfSpec)

/-- 'laws.FnExactNumbersIn', WHERE WHAT IT READS IS OF BULK AT MOST 1048576: true; the input reads as it did. -/
def fnExactNumbersInUptoRow : OpenClaim := { program := "ythhngfnamkebmaadoor", sum := "5ebf24bb3806607036a5f3f1caf0ff5a2f5693d2b38b8ff0ad30bef4ac517950", func := "loop.example/g01350/laws.FnExactNumbersIn", spec := "fnExactNumbersIn", inPlace := ["internal/bytealg.IndexByteString", "internal/bytealg.IndexString"], named := ["unicode/utf8.first", "unicode/utf8.acceptRanges", "internal/bytealg.MaxLen"], apart := false, laid := [("unicode/utf8.acceptRanges", laid_unicode_utf8_acceptRanges), ("unicode/utf8.first", laid_unicode_utf8_first)], narrowed := true }
def FnExactNumbersInUptoSaid : Prop := fnExactNumbersInUptoRow.holds Tryd.pinned (OpenSpec.upto fnExactNumbersInSpec)

/-- 'laws.FnExactFreeNumbers', WHERE WHAT IT READS IS OF BULK AT MOST 1048576: true; the input reads as it did. -/
def fnExactFreeNumbersUptoRow : OpenClaim := { program := "ythhngfnamkebmaadoor", sum := "5ebf24bb3806607036a5f3f1caf0ff5a2f5693d2b38b8ff0ad30bef4ac517950", func := "loop.example/g01350/laws.FnExactFreeNumbers", spec := "fnExactFreeNumbers", inPlace := ["internal/bytealg.IndexByteString", "internal/bytealg.IndexString"], unfollowed := true, recurses := true, named := ["unicode/utf8.first", "unicode/utf8.acceptRanges", "internal/bytealg.MaxLen"], apart := false, laid := [("unicode/utf8.acceptRanges", laid_unicode_utf8_acceptRanges), ("unicode/utf8.first", laid_unicode_utf8_first)], narrowed := true }
def FnExactFreeNumbersUptoSaid : Prop := fnExactFreeNumbersUptoRow.holds Tryd.pinned (OpenSpec.upto fnExactFreeNumbersSpec)

/-- 'laws.FnExactCountFreeCodes', WHERE WHAT IT READS IS OF BULK AT MOST 1048576: true; the input reads as it did. -/
def fnExactCountFreeCodesUptoRow : OpenClaim := { program := "ythhngfnamkebmaadoor", sum := "5ebf24bb3806607036a5f3f1caf0ff5a2f5693d2b38b8ff0ad30bef4ac517950", func := "loop.example/g01350/laws.FnExactCountFreeCodes", spec := "fnExactCountFreeCodes", inPlace := ["internal/bytealg.IndexByteString", "internal/bytealg.IndexString"], named := ["unicode/utf8.first", "unicode/utf8.acceptRanges", "internal/bytealg.MaxLen"], apart := false, laid := [("unicode/utf8.acceptRanges", laid_unicode_utf8_acceptRanges), ("unicode/utf8.first", laid_unicode_utf8_first)], narrowed := true }
def FnExactCountFreeCodesUptoSaid : Prop := fnExactCountFreeCodesUptoRow.holds Tryd.pinned (OpenSpec.upto fnExactCountFreeCodesSpec)

/-- 'laws.FnExactCodePlanText', WHERE WHAT IT READS IS OF BULK AT MOST 1048576: true; the input reads as it did. -/
def fnExactCodePlanTextUptoRow : OpenClaim := { program := "ythhngfnamkebmaadoor", sum := "5ebf24bb3806607036a5f3f1caf0ff5a2f5693d2b38b8ff0ad30bef4ac517950", func := "loop.example/g01350/laws.FnExactCodePlanText", spec := "fnExactCodePlanText", inPlace := ["internal/bytealg.IndexByteString", "internal/bytealg.IndexString", "internal/abi.NoEscape", "internal/bytealg.MakeNoZero"], named := ["unicode/utf8.first", "unicode/utf8.acceptRanges", "internal/bytealg.MaxLen"], apart := false, laid := [("unicode/utf8.acceptRanges", laid_unicode_utf8_acceptRanges), ("unicode/utf8.first", laid_unicode_utf8_first)], narrowed := true }
def FnExactCodePlanTextUptoSaid : Prop := fnExactCodePlanTextUptoRow.holds Tryd.pinned (OpenSpec.upto fnExactCodePlanTextSpec)

end Rows
end Go.Proofs.YthhngfnamkebmaaDoor
