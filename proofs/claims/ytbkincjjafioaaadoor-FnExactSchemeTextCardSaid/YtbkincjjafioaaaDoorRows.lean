/-
  NARROWER THAN 'FOR EVERY INPUT', by the rows' own cells (each row's printed sentence says how): FnExactDoubledSum: laid · FnExactDoubledCheck: laid · FnExactIsDoubledRight: laid · FnExactSchemeText: laid · FnExactCheckOf: laid · FnExactSumOfNumber: laid · FnExactIsRight: laid · FnExactNextRight: laid.
  DERIVED. THE GIVEN ROWS OF THIS SEAT. 8 by the template 'for every input the law returns true; each argument reads behind the call as it read before'; 0 by the template 'total and deterministic' (their statements: YtbkincjjafioaaaDoorTotals.lean).
  GIVEN WITH THE SEED: the statements are not yours to turn. If you find one false, say at which input.
  Laid BY PROGRAM, IN A SANDBOX (cutbox-rows.mjs): the forced cells as the released guide's own fill.sh prints them over the translation a2689e6fd48259ee… (all of the seat's roots in one cut). By AI agents, Wed Nov 11 2026. No macro, syntax, notation, axiom, sorry.
-/
import Derived.Test.YtbkincjjafioaaaDoorChecked
import GoSem.PinnedTables
import GoSem.Claim
import GoSem.ClaimJoined
import GoSem.ClaimMapViews
import Derived.JoinedTies
import Derived.KernelRfl
namespace Go.Proofs.YtbkincjjafioaaaDoor
/- THE CELL 'sum', in the pinned program and in every row, IS THE sha256 OF THE DUMP (.gsa) THAT YtbkincjjafioaaaDoorProg.lean LOADS. Nothing in Lean hashes anything: it is a label: what it is worth is what the hold of that sum in a sandbox is worth. -/
noncomputable def Tryd.pinned : Pinned := { name := "ytbkincjjafioaaadoor", sum := "a2689e6fd48259ee265286cf3d38084871427b8886decd72bb51440f5eb2407c", checked := Tryd.checked }
namespace Rows
def none {H : Type} : Left H := { results := [], args := [] }

/- WHAT THE LISTED PACKAGE-LEVEL VARIABLES READ AS WHEN THE CALL BEGINS. Each datum BY PROGRAM (the guide's laid-datum.mjs) off the statement by which the dump's own 'gosem.cut.vars' lays the variable. In a bare row this is a premise. The card (YtbkincjjafioaaaDoorCards.lean) ties it to the program's text. -/
def laid_unicode_utf8_acceptRanges {H : Type} : DataW H := .agg [.agg [.lit (.int .u8 128), .lit (.int .u8 191)], .agg [.lit (.int .u8 160), .lit (.int .u8 191)], .agg [.lit (.int .u8 128), .lit (.int .u8 159)], .agg [.lit (.int .u8 144), .lit (.int .u8 191)], .agg [.lit (.int .u8 128), .lit (.int .u8 143)], .agg [.lit (.int .u8 0), .lit (.int .u8 0)], .agg [.lit (.int .u8 0), .lit (.int .u8 0)], .agg [.lit (.int .u8 0), .lit (.int .u8 0)], .agg [.lit (.int .u8 0), .lit (.int .u8 0)], .agg [.lit (.int .u8 0), .lit (.int .u8 0)], .agg [.lit (.int .u8 0), .lit (.int .u8 0)], .agg [.lit (.int .u8 0), .lit (.int .u8 0)], .agg [.lit (.int .u8 0), .lit (.int .u8 0)], .agg [.lit (.int .u8 0), .lit (.int .u8 0)], .agg [.lit (.int .u8 0), .lit (.int .u8 0)], .agg [.lit (.int .u8 0), .lit (.int .u8 0)]]
/-- One of Go's own tables, pinned by name: the form's constant. -/
def laid_unicode_utf8_first : DataW Unit := Go.Pinned.utf8First
def laid_math_bits_deBruijn32tab {H : Type} : DataW H := .agg [.lit (.int .u8 0), .lit (.int .u8 1), .lit (.int .u8 28), .lit (.int .u8 2), .lit (.int .u8 29), .lit (.int .u8 14), .lit (.int .u8 24), .lit (.int .u8 3), .lit (.int .u8 30), .lit (.int .u8 22), .lit (.int .u8 20), .lit (.int .u8 15), .lit (.int .u8 25), .lit (.int .u8 17), .lit (.int .u8 4), .lit (.int .u8 8), .lit (.int .u8 31), .lit (.int .u8 27), .lit (.int .u8 13), .lit (.int .u8 23), .lit (.int .u8 21), .lit (.int .u8 19), .lit (.int .u8 16), .lit (.int .u8 7), .lit (.int .u8 26), .lit (.int .u8 12), .lit (.int .u8 18), .lit (.int .u8 6), .lit (.int .u8 11), .lit (.int .u8 5), .lit (.int .u8 10), .lit (.int .u8 9)]
def laid_math_bits_deBruijn64tab {H : Type} : DataW H := .agg [.lit (.int .u8 0), .lit (.int .u8 1), .lit (.int .u8 56), .lit (.int .u8 2), .lit (.int .u8 57), .lit (.int .u8 49), .lit (.int .u8 28), .lit (.int .u8 3), .lit (.int .u8 61), .lit (.int .u8 58), .lit (.int .u8 42), .lit (.int .u8 50), .lit (.int .u8 38), .lit (.int .u8 29), .lit (.int .u8 17), .lit (.int .u8 4), .lit (.int .u8 62), .lit (.int .u8 47), .lit (.int .u8 59), .lit (.int .u8 36), .lit (.int .u8 45), .lit (.int .u8 43), .lit (.int .u8 51), .lit (.int .u8 22), .lit (.int .u8 53), .lit (.int .u8 39), .lit (.int .u8 33), .lit (.int .u8 30), .lit (.int .u8 24), .lit (.int .u8 18), .lit (.int .u8 12), .lit (.int .u8 5), .lit (.int .u8 63), .lit (.int .u8 55), .lit (.int .u8 48), .lit (.int .u8 27), .lit (.int .u8 60), .lit (.int .u8 41), .lit (.int .u8 37), .lit (.int .u8 16), .lit (.int .u8 46), .lit (.int .u8 35), .lit (.int .u8 44), .lit (.int .u8 21), .lit (.int .u8 52), .lit (.int .u8 32), .lit (.int .u8 23), .lit (.int .u8 11), .lit (.int .u8 54), .lit (.int .u8 26), .lit (.int .u8 40), .lit (.int .u8 15), .lit (.int .u8 34), .lit (.int .u8 20), .lit (.int .u8 31), .lit (.int .u8 10), .lit (.int .u8 25), .lit (.int .u8 14), .lit (.int .u8 19), .lit (.int .u8 9), .lit (.int .u8 13), .lit (.int .u8 8), .lit (.int .u8 7), .lit (.int .u8 6)]
def laid_internal_strconv_uint64pow10 {H : Type} : DataW H := .agg [.lit (.int .u64 1), .lit (.int .u64 10), .lit (.int .u64 100), .lit (.int .u64 1000), .lit (.int .u64 10000), .lit (.int .u64 100000), .lit (.int .u64 1000000), .lit (.int .u64 10000000), .lit (.int .u64 100000000), .lit (.int .u64 1000000000), .lit (.int .u64 10000000000), .lit (.int .u64 100000000000), .lit (.int .u64 1000000000000), .lit (.int .u64 10000000000000), .lit (.int .u64 100000000000000), .lit (.int .u64 1000000000000000), .lit (.int .u64 10000000000000000), .lit (.int .u64 100000000000000000), .lit (.int .u64 1000000000000000000), .lit (.int .u64 10000000000000000000)]

/-- 'laws.FnExactDoubledSum': WHATEVER THE INPUT: true; the input reads as it did. -/
def fnExactDoubledSumSpec : ChangeSpec := { name := "fnExactDoubledSum", fn := fun _ => fun
  | [d] => { results := [.lit (.bool true)], args := [d] }
  | _ => none }
def fnExactDoubledSumRow : OpenClaim := { program := "ytbkincjjafioaaadoor", sum := "a2689e6fd48259ee265286cf3d38084871427b8886decd72bb51440f5eb2407c", func := "loop.example/g01350/laws.FnExactDoubledSum", spec := "fnExactDoubledSum", inPlace := ["internal/bytealg.IndexByteString", "internal/bytealg.IndexString"], named := ["unicode/utf8.first", "unicode/utf8.acceptRanges", "internal/bytealg.MaxLen"], apart := false, laid := [("unicode/utf8.acceptRanges", laid_unicode_utf8_acceptRanges), ("unicode/utf8.first", laid_unicode_utf8_first)] }
def FnExactDoubledSumSaid : Prop := fnExactDoubledSumRow.holds Tryd.pinned (OpenSpec.ofChange fnExactDoubledSumSpec)

/-- ITS FALSE NEIGHBOUR: 'it returns false'. Refute it at one input. -/
def fnExactDoubledSumWrong : ChangeSpec := { name := "fnExactDoubledSum", fn := fun _ => fun
  | [d] => { results := [.lit (.bool false)], args := [d] }
  | _ => none }
def FnExactDoubledSumWrongFalsely : Prop := fnExactDoubledSumRow.holds Tryd.pinned (OpenSpec.ofChange fnExactDoubledSumWrong)

/-- 'laws.FnExactDoubledCheck': WHATEVER THE INPUT: true; the input reads as it did. -/
def fnExactDoubledCheckSpec : ChangeSpec := { name := "fnExactDoubledCheck", fn := fun _ => fun
  | [d] => { results := [.lit (.bool true)], args := [d] }
  | _ => none }
def fnExactDoubledCheckRow : OpenClaim := { program := "ytbkincjjafioaaadoor", sum := "a2689e6fd48259ee265286cf3d38084871427b8886decd72bb51440f5eb2407c", func := "loop.example/g01350/laws.FnExactDoubledCheck", spec := "fnExactDoubledCheck", inPlace := ["internal/bytealg.IndexByteString", "internal/bytealg.IndexString"], named := ["unicode/utf8.first", "unicode/utf8.acceptRanges", "internal/bytealg.MaxLen"], apart := false, laid := [("unicode/utf8.acceptRanges", laid_unicode_utf8_acceptRanges), ("unicode/utf8.first", laid_unicode_utf8_first)] }
def FnExactDoubledCheckSaid : Prop := fnExactDoubledCheckRow.holds Tryd.pinned (OpenSpec.ofChange fnExactDoubledCheckSpec)

/-- ITS FALSE NEIGHBOUR: 'it returns false'. Refute it at one input. -/
def fnExactDoubledCheckWrong : ChangeSpec := { name := "fnExactDoubledCheck", fn := fun _ => fun
  | [d] => { results := [.lit (.bool false)], args := [d] }
  | _ => none }
def FnExactDoubledCheckWrongFalsely : Prop := fnExactDoubledCheckRow.holds Tryd.pinned (OpenSpec.ofChange fnExactDoubledCheckWrong)

/-- 'laws.FnExactIsDoubledRight': WHATEVER THE INPUT: true; the input reads as it did. -/
def fnExactIsDoubledRightSpec : ChangeSpec := { name := "fnExactIsDoubledRight", fn := fun _ => fun
  | [d] => { results := [.lit (.bool true)], args := [d] }
  | _ => none }
def fnExactIsDoubledRightRow : OpenClaim := { program := "ytbkincjjafioaaadoor", sum := "a2689e6fd48259ee265286cf3d38084871427b8886decd72bb51440f5eb2407c", func := "loop.example/g01350/laws.FnExactIsDoubledRight", spec := "fnExactIsDoubledRight", inPlace := ["internal/bytealg.IndexByteString", "internal/bytealg.IndexString"], named := ["unicode/utf8.first", "unicode/utf8.acceptRanges", "internal/bytealg.MaxLen"], apart := false, laid := [("unicode/utf8.acceptRanges", laid_unicode_utf8_acceptRanges), ("unicode/utf8.first", laid_unicode_utf8_first)] }
def FnExactIsDoubledRightSaid : Prop := fnExactIsDoubledRightRow.holds Tryd.pinned (OpenSpec.ofChange fnExactIsDoubledRightSpec)

/-- ITS FALSE NEIGHBOUR: 'it returns false'. Refute it at one input. -/
def fnExactIsDoubledRightWrong : ChangeSpec := { name := "fnExactIsDoubledRight", fn := fun _ => fun
  | [d] => { results := [.lit (.bool false)], args := [d] }
  | _ => none }
def FnExactIsDoubledRightWrongFalsely : Prop := fnExactIsDoubledRightRow.holds Tryd.pinned (OpenSpec.ofChange fnExactIsDoubledRightWrong)

/-- 'laws.FnExactSchemeText': WHATEVER THE INPUT: true; the input reads as it did. -/
def fnExactSchemeTextSpec : ChangeSpec := { name := "fnExactSchemeText", fn := fun _ => fun
  | [d] => { results := [.lit (.bool true)], args := [d] }
  | _ => none }
def fnExactSchemeTextRow : OpenClaim := { program := "ytbkincjjafioaaadoor", sum := "a2689e6fd48259ee265286cf3d38084871427b8886decd72bb51440f5eb2407c", func := "loop.example/g01350/laws.FnExactSchemeText", spec := "fnExactSchemeText", inPlace := ["internal/abi.NoEscape", "internal/bytealg.MakeNoZero"], unfollowed := true, recurses := true, named := ["internal/strconv.uint64pow10", "math/bits.deBruijn32tab", "math/bits.deBruijn64tab"], apart := false, laid := [("math/bits.deBruijn32tab", laid_math_bits_deBruijn32tab), ("math/bits.deBruijn64tab", laid_math_bits_deBruijn64tab), ("internal/strconv.uint64pow10", laid_internal_strconv_uint64pow10)] }
def FnExactSchemeTextSaid : Prop := fnExactSchemeTextRow.holds Tryd.pinned (OpenSpec.ofChange fnExactSchemeTextSpec)

/-- ITS FALSE NEIGHBOUR: 'it returns false'. Refute it at one input. -/
def fnExactSchemeTextWrong : ChangeSpec := { name := "fnExactSchemeText", fn := fun _ => fun
  | [d] => { results := [.lit (.bool false)], args := [d] }
  | _ => none }
def FnExactSchemeTextWrongFalsely : Prop := fnExactSchemeTextRow.holds Tryd.pinned (OpenSpec.ofChange fnExactSchemeTextWrong)

/-- 'laws.FnExactCheckOf': WHATEVER THE INPUT: true; the input reads as it did. -/
def fnExactCheckOfSpec : ChangeSpec := { name := "fnExactCheckOf", fn := fun _ => fun
  | [d1, d2] => { results := [.lit (.bool true)], args := [d1, d2] }
  | _ => none }
def fnExactCheckOfRow : OpenClaim := { program := "ytbkincjjafioaaadoor", sum := "a2689e6fd48259ee265286cf3d38084871427b8886decd72bb51440f5eb2407c", func := "loop.example/g01350/laws.FnExactCheckOf", spec := "fnExactCheckOf", inPlace := ["internal/bytealg.IndexByteString", "internal/bytealg.IndexString"], unfollowed := true, recurses := true, named := ["unicode/utf8.first", "unicode/utf8.acceptRanges", "internal/bytealg.MaxLen"], apart := false, laid := [("unicode/utf8.acceptRanges", laid_unicode_utf8_acceptRanges), ("unicode/utf8.first", laid_unicode_utf8_first)] }
def FnExactCheckOfSaid : Prop := fnExactCheckOfRow.holds Tryd.pinned (OpenSpec.ofChange fnExactCheckOfSpec)

/-- ITS FALSE NEIGHBOUR: 'it returns false'. Refute it at one input. -/
def fnExactCheckOfWrong : ChangeSpec := { name := "fnExactCheckOf", fn := fun _ => fun
  | [d1, d2] => { results := [.lit (.bool false)], args := [d1, d2] }
  | _ => none }
def FnExactCheckOfWrongFalsely : Prop := fnExactCheckOfRow.holds Tryd.pinned (OpenSpec.ofChange fnExactCheckOfWrong)

/-- 'laws.FnExactSumOfNumber': WHATEVER THE INPUT: true; the input reads as it did. -/
def fnExactSumOfNumberSpec : ChangeSpec := { name := "fnExactSumOfNumber", fn := fun _ => fun
  | [d1, d2] => { results := [.lit (.bool true)], args := [d1, d2] }
  | _ => none }
def fnExactSumOfNumberRow : OpenClaim := { program := "ytbkincjjafioaaadoor", sum := "a2689e6fd48259ee265286cf3d38084871427b8886decd72bb51440f5eb2407c", func := "loop.example/g01350/laws.FnExactSumOfNumber", spec := "fnExactSumOfNumber", inPlace := ["internal/bytealg.IndexByteString", "internal/bytealg.IndexString"], unfollowed := true, recurses := true, named := ["unicode/utf8.first", "unicode/utf8.acceptRanges", "internal/bytealg.MaxLen"], apart := false, laid := [("unicode/utf8.acceptRanges", laid_unicode_utf8_acceptRanges), ("unicode/utf8.first", laid_unicode_utf8_first)] }
def FnExactSumOfNumberSaid : Prop := fnExactSumOfNumberRow.holds Tryd.pinned (OpenSpec.ofChange fnExactSumOfNumberSpec)

/-- ITS FALSE NEIGHBOUR: 'it returns false'. Refute it at one input. -/
def fnExactSumOfNumberWrong : ChangeSpec := { name := "fnExactSumOfNumber", fn := fun _ => fun
  | [d1, d2] => { results := [.lit (.bool false)], args := [d1, d2] }
  | _ => none }
def FnExactSumOfNumberWrongFalsely : Prop := fnExactSumOfNumberRow.holds Tryd.pinned (OpenSpec.ofChange fnExactSumOfNumberWrong)

/-- 'laws.FnExactIsRight': WHATEVER THE INPUT: true; the input reads as it did. -/
def fnExactIsRightSpec : ChangeSpec := { name := "fnExactIsRight", fn := fun _ => fun
  | [d1, d2] => { results := [.lit (.bool true)], args := [d1, d2] }
  | _ => none }
def fnExactIsRightRow : OpenClaim := { program := "ytbkincjjafioaaadoor", sum := "a2689e6fd48259ee265286cf3d38084871427b8886decd72bb51440f5eb2407c", func := "loop.example/g01350/laws.FnExactIsRight", spec := "fnExactIsRight", inPlace := ["internal/bytealg.IndexByteString", "internal/bytealg.IndexString"], unfollowed := true, recurses := true, named := ["unicode/utf8.first", "unicode/utf8.acceptRanges", "internal/bytealg.MaxLen"], apart := false, laid := [("unicode/utf8.acceptRanges", laid_unicode_utf8_acceptRanges), ("unicode/utf8.first", laid_unicode_utf8_first)] }
def FnExactIsRightSaid : Prop := fnExactIsRightRow.holds Tryd.pinned (OpenSpec.ofChange fnExactIsRightSpec)

/-- ITS FALSE NEIGHBOUR: 'it returns false'. Refute it at one input. -/
def fnExactIsRightWrong : ChangeSpec := { name := "fnExactIsRight", fn := fun _ => fun
  | [d1, d2] => { results := [.lit (.bool false)], args := [d1, d2] }
  | _ => none }
def FnExactIsRightWrongFalsely : Prop := fnExactIsRightRow.holds Tryd.pinned (OpenSpec.ofChange fnExactIsRightWrong)

/-- 'laws.FnExactNextRight': WHATEVER THE INPUT: true; the input reads as it did. -/
def fnExactNextRightSpec : ChangeSpec := { name := "fnExactNextRight", fn := fun _ => fun
  | [d1, d2] => { results := [.lit (.bool true)], args := [d1, d2] }
  | _ => none }
def fnExactNextRightRow : OpenClaim := { program := "ytbkincjjafioaaadoor", sum := "a2689e6fd48259ee265286cf3d38084871427b8886decd72bb51440f5eb2407c", func := "loop.example/g01350/laws.FnExactNextRight", spec := "fnExactNextRight", inPlace := ["internal/bytealg.IndexByteString", "internal/bytealg.IndexString"], unfollowed := true, recurses := true, named := ["unicode/utf8.first", "unicode/utf8.acceptRanges", "internal/bytealg.MaxLen"], apart := false, laid := [("unicode/utf8.acceptRanges", laid_unicode_utf8_acceptRanges), ("unicode/utf8.first", laid_unicode_utf8_first)] }
def FnExactNextRightSaid : Prop := fnExactNextRightRow.holds Tryd.pinned (OpenSpec.ofChange fnExactNextRightSpec)

/-- ITS FALSE NEIGHBOUR: 'it returns false'. Refute it at one input. -/
def fnExactNextRightWrong : ChangeSpec := { name := "fnExactNextRight", fn := fun _ => fun
  | [d1, d2] => { results := [.lit (.bool false)], args := [d1, d2] }
  | _ => none }
def FnExactNextRightWrongFalsely : Prop := fnExactNextRightRow.holds Tryd.pinned (OpenSpec.ofChange fnExactNextRightWrong)

/- THE SECOND FORM. 'bulk': how many values and letters a reading holds, each counted each time it is reached (what is shared counts as often as it is met; a slice's spare places count too). A statement '..UptoSaid' is the law's where the arguments, and the package variables that the reading takes, are together of bulk at most 1048576: NARROWER than '..Said'. Prove '..Said' where nothing that the law and all that it calls make is longer than what came in: it says more and counts as full. Else prove '..UptoSaid'. A law counts once. -/
mutual
def uptoBulk {H : Type} : DataW H → Nat
  | .lit (.string bytes) => bytes.length + 1
  | .lit _ => 1
  | .nil => 1
  | .ptr d => uptoBulk d + 1
  | .slice elems spare => uptoBulkAll elems + uptoBulkAll spare + 1
  | .agg parts => uptoBulkAll parts + 1
  | .iface _ d => uptoBulk d + 1
  | .map entries => uptoBulkEntries entries + 1
  | .held _ => 1
def uptoBulkAll {H : Type} : List (DataW H) → Nat
  | [] => 0
  | d :: r => uptoBulk d + uptoBulkAll r
def uptoBulkEntries {H : Type} : List (Lit × DataW H) → Nat
  | [] => 0
  | x :: r => uptoBulkEntry x + uptoBulkEntries r
def uptoBulkEntry {H : Type} : Lit × DataW H → Nat
  | (.string bytes, d) => bytes.length + uptoBulk d + 1
  | (_, d) => uptoBulk d + 1
 end
def uptoSmall : (H : Type) → List (DataW H) → Bool := fun _ ds => decide (uptoBulkAll ds ≤ 1048576)
def OpenSpec.upto (s : _root_.Go.ChangeSpec) : _root_.Go.OpenSpec := { _root_.Go.OpenSpec.ofChange s with cond := some uptoSmall }

/-- 'laws.FnExactDoubledSum', WHERE WHAT IT READS IS OF BULK AT MOST 1048576: true; the input reads as it did. -/
def fnExactDoubledSumUptoRow : OpenClaim := { program := "ytbkincjjafioaaadoor", sum := "a2689e6fd48259ee265286cf3d38084871427b8886decd72bb51440f5eb2407c", func := "loop.example/g01350/laws.FnExactDoubledSum", spec := "fnExactDoubledSum", inPlace := ["internal/bytealg.IndexByteString", "internal/bytealg.IndexString"], named := ["unicode/utf8.first", "unicode/utf8.acceptRanges", "internal/bytealg.MaxLen"], apart := false, laid := [("unicode/utf8.acceptRanges", laid_unicode_utf8_acceptRanges), ("unicode/utf8.first", laid_unicode_utf8_first)], narrowed := true }
def FnExactDoubledSumUptoSaid : Prop := fnExactDoubledSumUptoRow.holds Tryd.pinned (OpenSpec.upto fnExactDoubledSumSpec)

/-- 'laws.FnExactDoubledCheck', WHERE WHAT IT READS IS OF BULK AT MOST 1048576: true; the input reads as it did. -/
def fnExactDoubledCheckUptoRow : OpenClaim := { program := "ytbkincjjafioaaadoor", sum := "a2689e6fd48259ee265286cf3d38084871427b8886decd72bb51440f5eb2407c", func := "loop.example/g01350/laws.FnExactDoubledCheck", spec := "fnExactDoubledCheck", inPlace := ["internal/bytealg.IndexByteString", "internal/bytealg.IndexString"], named := ["unicode/utf8.first", "unicode/utf8.acceptRanges", "internal/bytealg.MaxLen"], apart := false, laid := [("unicode/utf8.acceptRanges", laid_unicode_utf8_acceptRanges), ("unicode/utf8.first", laid_unicode_utf8_first)], narrowed := true }
def FnExactDoubledCheckUptoSaid : Prop := fnExactDoubledCheckUptoRow.holds Tryd.pinned (OpenSpec.upto fnExactDoubledCheckSpec)

/-- 'laws.FnExactIsDoubledRight', WHERE WHAT IT READS IS OF BULK AT MOST 1048576: true; the input reads as it did. -/
def fnExactIsDoubledRightUptoRow : OpenClaim := { program := "ytbkincjjafioaaadoor", sum := "a2689e6fd48259ee265286cf3d38084871427b8886decd72bb51440f5eb2407c", func := "loop.example/g01350/laws.FnExactIsDoubledRight", spec := "fnExactIsDoubledRight", inPlace := ["internal/bytealg.IndexByteString", "internal/bytealg.IndexString"], named := ["unicode/utf8.first", "unicode/utf8.acceptRanges", "internal/bytealg.MaxLen"], apart := false, laid := [("unicode/utf8.acceptRanges", laid_unicode_utf8_acceptRanges), ("unicode/utf8.first", laid_unicode_utf8_first)], narrowed := true }
def FnExactIsDoubledRightUptoSaid : Prop := fnExactIsDoubledRightUptoRow.holds Tryd.pinned (OpenSpec.upto fnExactIsDoubledRightSpec)

/-- 'laws.FnExactSchemeText', WHERE WHAT IT READS IS OF BULK AT MOST 1048576: true; the input reads as it did. -/
def fnExactSchemeTextUptoRow : OpenClaim := { program := "ytbkincjjafioaaadoor", sum := "a2689e6fd48259ee265286cf3d38084871427b8886decd72bb51440f5eb2407c", func := "loop.example/g01350/laws.FnExactSchemeText", spec := "fnExactSchemeText", inPlace := ["internal/abi.NoEscape", "internal/bytealg.MakeNoZero"], unfollowed := true, recurses := true, named := ["internal/strconv.uint64pow10", "math/bits.deBruijn32tab", "math/bits.deBruijn64tab"], apart := false, laid := [("math/bits.deBruijn32tab", laid_math_bits_deBruijn32tab), ("math/bits.deBruijn64tab", laid_math_bits_deBruijn64tab), ("internal/strconv.uint64pow10", laid_internal_strconv_uint64pow10)], narrowed := true }
def FnExactSchemeTextUptoSaid : Prop := fnExactSchemeTextUptoRow.holds Tryd.pinned (OpenSpec.upto fnExactSchemeTextSpec)

/-- 'laws.FnExactCheckOf', WHERE WHAT IT READS IS OF BULK AT MOST 1048576: true; the input reads as it did. -/
def fnExactCheckOfUptoRow : OpenClaim := { program := "ytbkincjjafioaaadoor", sum := "a2689e6fd48259ee265286cf3d38084871427b8886decd72bb51440f5eb2407c", func := "loop.example/g01350/laws.FnExactCheckOf", spec := "fnExactCheckOf", inPlace := ["internal/bytealg.IndexByteString", "internal/bytealg.IndexString"], unfollowed := true, recurses := true, named := ["unicode/utf8.first", "unicode/utf8.acceptRanges", "internal/bytealg.MaxLen"], apart := false, laid := [("unicode/utf8.acceptRanges", laid_unicode_utf8_acceptRanges), ("unicode/utf8.first", laid_unicode_utf8_first)], narrowed := true }
def FnExactCheckOfUptoSaid : Prop := fnExactCheckOfUptoRow.holds Tryd.pinned (OpenSpec.upto fnExactCheckOfSpec)

/-- 'laws.FnExactSumOfNumber', WHERE WHAT IT READS IS OF BULK AT MOST 1048576: true; the input reads as it did. -/
def fnExactSumOfNumberUptoRow : OpenClaim := { program := "ytbkincjjafioaaadoor", sum := "a2689e6fd48259ee265286cf3d38084871427b8886decd72bb51440f5eb2407c", func := "loop.example/g01350/laws.FnExactSumOfNumber", spec := "fnExactSumOfNumber", inPlace := ["internal/bytealg.IndexByteString", "internal/bytealg.IndexString"], unfollowed := true, recurses := true, named := ["unicode/utf8.first", "unicode/utf8.acceptRanges", "internal/bytealg.MaxLen"], apart := false, laid := [("unicode/utf8.acceptRanges", laid_unicode_utf8_acceptRanges), ("unicode/utf8.first", laid_unicode_utf8_first)], narrowed := true }
def FnExactSumOfNumberUptoSaid : Prop := fnExactSumOfNumberUptoRow.holds Tryd.pinned (OpenSpec.upto fnExactSumOfNumberSpec)

/-- 'laws.FnExactIsRight', WHERE WHAT IT READS IS OF BULK AT MOST 1048576: true; the input reads as it did. -/
def fnExactIsRightUptoRow : OpenClaim := { program := "ytbkincjjafioaaadoor", sum := "a2689e6fd48259ee265286cf3d38084871427b8886decd72bb51440f5eb2407c", func := "loop.example/g01350/laws.FnExactIsRight", spec := "fnExactIsRight", inPlace := ["internal/bytealg.IndexByteString", "internal/bytealg.IndexString"], unfollowed := true, recurses := true, named := ["unicode/utf8.first", "unicode/utf8.acceptRanges", "internal/bytealg.MaxLen"], apart := false, laid := [("unicode/utf8.acceptRanges", laid_unicode_utf8_acceptRanges), ("unicode/utf8.first", laid_unicode_utf8_first)], narrowed := true }
def FnExactIsRightUptoSaid : Prop := fnExactIsRightUptoRow.holds Tryd.pinned (OpenSpec.upto fnExactIsRightSpec)

/-- 'laws.FnExactNextRight', WHERE WHAT IT READS IS OF BULK AT MOST 1048576: true; the input reads as it did. -/
def fnExactNextRightUptoRow : OpenClaim := { program := "ytbkincjjafioaaadoor", sum := "a2689e6fd48259ee265286cf3d38084871427b8886decd72bb51440f5eb2407c", func := "loop.example/g01350/laws.FnExactNextRight", spec := "fnExactNextRight", inPlace := ["internal/bytealg.IndexByteString", "internal/bytealg.IndexString"], unfollowed := true, recurses := true, named := ["unicode/utf8.first", "unicode/utf8.acceptRanges", "internal/bytealg.MaxLen"], apart := false, laid := [("unicode/utf8.acceptRanges", laid_unicode_utf8_acceptRanges), ("unicode/utf8.first", laid_unicode_utf8_first)], narrowed := true }
def FnExactNextRightUptoSaid : Prop := fnExactNextRightUptoRow.holds Tryd.pinned (OpenSpec.upto fnExactNextRightSpec)

end Rows
end Go.Proofs.YtbkincjjafioaaaDoor
