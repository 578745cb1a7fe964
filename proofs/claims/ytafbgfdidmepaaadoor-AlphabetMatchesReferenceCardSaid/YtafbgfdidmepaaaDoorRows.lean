/-
  NARROWER THAN 'FOR EVERY INPUT', by the rows' own cells (each row's printed sentence says how): AlphabetMatchesReference: laid · AlphabetReads: laid · AlphabetJoins: laid · AlphabetFolds: laid · AlphabetErrors: laid · AlphabetParts: laid · AlphabetFewer: laid · AlphabetBytes: laid.
  DERIVED. THE GIVEN ROWS OF THIS SEAT. 8 by the template 'for every input the law returns true; each argument reads behind the call as it read before'; 0 by the template 'total and deterministic' (their statements: YtafbgfdidmepaaaDoorTotals.lean).
  GIVEN WITH THE SEED: the statements are not yours to turn. If you find one false, say at which input.
  Laid BY PROGRAM, IN A SANDBOX (cutbox-rows.mjs): the forced cells as the released guide's own fill.sh prints them over the translation 896f11d291032242… (all of the seat's roots in one cut). By AI agents, Wed Nov 11 2026. No macro, syntax, notation, axiom, sorry.
-/
import Derived.Test.YtafbgfdidmepaaaDoorChecked
import GoSem.Claim
import GoSem.ClaimJoined
import GoSem.ClaimMapViews
import Derived.JoinedTies
import Derived.KernelRfl
namespace Go.Proofs.YtafbgfdidmepaaaDoor
/- THE CELL 'sum', in the pinned program and in every row, IS THE sha256 OF THE DUMP (.gsa) THAT YtafbgfdidmepaaaDoorProg.lean LOADS. Nothing in Lean hashes anything: it is a label: what it is worth is what the hold of that sum in a sandbox is worth. -/
noncomputable def Tryd.pinned : Pinned := { name := "ytafbgfdidmepaaadoor", sum := "896f11d291032242cacc0bd5e01d080f521682ae1c7f0446845bcc118411ad83", checked := Tryd.checked }
namespace Rows
def none {H : Type} : Left H := { results := [], args := [] }

/- WHAT THE LISTED PACKAGE-LEVEL VARIABLES READ AS WHEN THE CALL BEGINS. Each datum BY PROGRAM (the guide's laid-datum.mjs) off the statement by which the dump's own 'gosem.cut.vars' lays the variable. In a bare row this is a premise. The card (YtafbgfdidmepaaaDoorCards.lean) ties it to the program's text. -/
def laid_math_bits_deBruijn32tab {H : Type} : DataW H := .agg [.lit (.int .u8 0), .lit (.int .u8 1), .lit (.int .u8 28), .lit (.int .u8 2), .lit (.int .u8 29), .lit (.int .u8 14), .lit (.int .u8 24), .lit (.int .u8 3), .lit (.int .u8 30), .lit (.int .u8 22), .lit (.int .u8 20), .lit (.int .u8 15), .lit (.int .u8 25), .lit (.int .u8 17), .lit (.int .u8 4), .lit (.int .u8 8), .lit (.int .u8 31), .lit (.int .u8 27), .lit (.int .u8 13), .lit (.int .u8 23), .lit (.int .u8 21), .lit (.int .u8 19), .lit (.int .u8 16), .lit (.int .u8 7), .lit (.int .u8 26), .lit (.int .u8 12), .lit (.int .u8 18), .lit (.int .u8 6), .lit (.int .u8 11), .lit (.int .u8 5), .lit (.int .u8 10), .lit (.int .u8 9)]
def laid_math_bits_deBruijn64tab {H : Type} : DataW H := .agg [.lit (.int .u8 0), .lit (.int .u8 1), .lit (.int .u8 56), .lit (.int .u8 2), .lit (.int .u8 57), .lit (.int .u8 49), .lit (.int .u8 28), .lit (.int .u8 3), .lit (.int .u8 61), .lit (.int .u8 58), .lit (.int .u8 42), .lit (.int .u8 50), .lit (.int .u8 38), .lit (.int .u8 29), .lit (.int .u8 17), .lit (.int .u8 4), .lit (.int .u8 62), .lit (.int .u8 47), .lit (.int .u8 59), .lit (.int .u8 36), .lit (.int .u8 45), .lit (.int .u8 43), .lit (.int .u8 51), .lit (.int .u8 22), .lit (.int .u8 53), .lit (.int .u8 39), .lit (.int .u8 33), .lit (.int .u8 30), .lit (.int .u8 24), .lit (.int .u8 18), .lit (.int .u8 12), .lit (.int .u8 5), .lit (.int .u8 63), .lit (.int .u8 55), .lit (.int .u8 48), .lit (.int .u8 27), .lit (.int .u8 60), .lit (.int .u8 41), .lit (.int .u8 37), .lit (.int .u8 16), .lit (.int .u8 46), .lit (.int .u8 35), .lit (.int .u8 44), .lit (.int .u8 21), .lit (.int .u8 52), .lit (.int .u8 32), .lit (.int .u8 23), .lit (.int .u8 11), .lit (.int .u8 54), .lit (.int .u8 26), .lit (.int .u8 40), .lit (.int .u8 15), .lit (.int .u8 34), .lit (.int .u8 20), .lit (.int .u8 31), .lit (.int .u8 10), .lit (.int .u8 25), .lit (.int .u8 14), .lit (.int .u8 19), .lit (.int .u8 9), .lit (.int .u8 13), .lit (.int .u8 8), .lit (.int .u8 7), .lit (.int .u8 6)]
def laid_internal_strconv_uint64pow10 {H : Type} : DataW H := .agg [.lit (.int .u64 1), .lit (.int .u64 10), .lit (.int .u64 100), .lit (.int .u64 1000), .lit (.int .u64 10000), .lit (.int .u64 100000), .lit (.int .u64 1000000), .lit (.int .u64 10000000), .lit (.int .u64 100000000), .lit (.int .u64 1000000000), .lit (.int .u64 10000000000), .lit (.int .u64 100000000000), .lit (.int .u64 1000000000000), .lit (.int .u64 10000000000000), .lit (.int .u64 100000000000000), .lit (.int .u64 1000000000000000), .lit (.int .u64 10000000000000000), .lit (.int .u64 100000000000000000), .lit (.int .u64 1000000000000000000), .lit (.int .u64 10000000000000000000)]
def laid_strconv_ErrRange {H : Type} : DataW H := .iface "*errors.errorString" (.ptr (.agg [.lit (.string [118, 97, 108, 117, 101, 32, 111, 117, 116, 32, 111, 102, 32, 114, 97, 110, 103, 101])]))
def laid_strconv_ErrSyntax {H : Type} : DataW H := .iface "*errors.errorString" (.ptr (.agg [.lit (.string [105, 110, 118, 97, 108, 105, 100, 32, 115, 121, 110, 116, 97, 120])]))

/-- 'gazetteerlaw10.AlphabetMatchesReference': WHATEVER THE INPUT: true; the input reads as it did. -/
def alphabetMatchesReferenceSpec : ChangeSpec := { name := "alphabetMatchesReference", fn := fun _ => fun
  | [d1, d2, d3] => { results := [.lit (.bool true)], args := [d1, d2, d3] }
  | _ => none }
def alphabetMatchesReferenceRow : OpenClaim := { program := "ytafbgfdidmepaaadoor", sum := "896f11d291032242cacc0bd5e01d080f521682ae1c7f0446845bcc118411ad83", func := "gazetteer/gazetteerlaw10.AlphabetMatchesReference", spec := "alphabetMatchesReference", inPlace := ["internal/bytealg.IndexByteString", "internal/bytealg.IndexString", "internal/abi.NoEscape"], unfollowed := true, recurses := true, named := ["strconv.ErrSyntax", "strconv.ErrRange", "internal/strconv.uint64pow10", "math/bits.deBruijn32tab", "math/bits.deBruijn64tab", "internal/bytealg.MaxLen"], apart := false, laid := [("math/bits.deBruijn32tab", laid_math_bits_deBruijn32tab), ("math/bits.deBruijn64tab", laid_math_bits_deBruijn64tab), ("internal/strconv.uint64pow10", laid_internal_strconv_uint64pow10), ("strconv.ErrRange", laid_strconv_ErrRange), ("strconv.ErrSyntax", laid_strconv_ErrSyntax)] }
def AlphabetMatchesReferenceSaid : Prop := alphabetMatchesReferenceRow.holds Tryd.pinned (OpenSpec.ofChange alphabetMatchesReferenceSpec)

/-- ITS FALSE NEIGHBOUR: 'it returns false'. Refute it at one input. -/
def alphabetMatchesReferenceWrong : ChangeSpec := { name := "alphabetMatchesReference", fn := fun _ => fun
  | [d1, d2, d3] => { results := [.lit (.bool false)], args := [d1, d2, d3] }
  | _ => none }
def AlphabetMatchesReferenceWrongFalsely : Prop := alphabetMatchesReferenceRow.holds Tryd.pinned (OpenSpec.ofChange alphabetMatchesReferenceWrong)

/-- 'gazetteerlaw10.AlphabetReads': WHATEVER THE INPUT: true; the input reads as it did. -/
def alphabetReadsSpec : ChangeSpec := { name := "alphabetReads", fn := fun _ => fun
  | [d1, d2] => { results := [.lit (.bool true)], args := [d1, d2] }
  | _ => none }
def alphabetReadsRow : OpenClaim := { program := "ytafbgfdidmepaaadoor", sum := "896f11d291032242cacc0bd5e01d080f521682ae1c7f0446845bcc118411ad83", func := "gazetteer/gazetteerlaw10.AlphabetReads", spec := "alphabetReads", inPlace := ["internal/bytealg.IndexByteString", "internal/bytealg.IndexString", "internal/abi.NoEscape"], unfollowed := true, recurses := true, named := ["strconv.ErrSyntax", "strconv.ErrRange", "internal/strconv.uint64pow10", "math/bits.deBruijn32tab", "math/bits.deBruijn64tab", "internal/bytealg.MaxLen"], apart := false, laid := [("math/bits.deBruijn32tab", laid_math_bits_deBruijn32tab), ("math/bits.deBruijn64tab", laid_math_bits_deBruijn64tab), ("internal/strconv.uint64pow10", laid_internal_strconv_uint64pow10), ("strconv.ErrRange", laid_strconv_ErrRange), ("strconv.ErrSyntax", laid_strconv_ErrSyntax)] }
def AlphabetReadsSaid : Prop := alphabetReadsRow.holds Tryd.pinned (OpenSpec.ofChange alphabetReadsSpec)

/-- ITS FALSE NEIGHBOUR: 'it returns false'. Refute it at one input. -/
def alphabetReadsWrong : ChangeSpec := { name := "alphabetReads", fn := fun _ => fun
  | [d1, d2] => { results := [.lit (.bool false)], args := [d1, d2] }
  | _ => none }
def AlphabetReadsWrongFalsely : Prop := alphabetReadsRow.holds Tryd.pinned (OpenSpec.ofChange alphabetReadsWrong)

/-- 'gazetteerlaw10.AlphabetJoins': WHATEVER THE INPUT: true; the input reads as it did. -/
def alphabetJoinsSpec : ChangeSpec := { name := "alphabetJoins", fn := fun _ => fun
  | [d1, d2, d3] => { results := [.lit (.bool true)], args := [d1, d2, d3] }
  | _ => none }
def alphabetJoinsRow : OpenClaim := { program := "ytafbgfdidmepaaadoor", sum := "896f11d291032242cacc0bd5e01d080f521682ae1c7f0446845bcc118411ad83", func := "gazetteer/gazetteerlaw10.AlphabetJoins", spec := "alphabetJoins", inPlace := ["internal/bytealg.IndexByteString", "internal/bytealg.IndexString", "internal/abi.NoEscape"], unfollowed := true, recurses := true, named := ["strconv.ErrSyntax", "strconv.ErrRange", "internal/strconv.uint64pow10", "math/bits.deBruijn32tab", "math/bits.deBruijn64tab", "internal/bytealg.MaxLen"], apart := false, laid := [("math/bits.deBruijn32tab", laid_math_bits_deBruijn32tab), ("math/bits.deBruijn64tab", laid_math_bits_deBruijn64tab), ("internal/strconv.uint64pow10", laid_internal_strconv_uint64pow10), ("strconv.ErrRange", laid_strconv_ErrRange), ("strconv.ErrSyntax", laid_strconv_ErrSyntax)] }
def AlphabetJoinsSaid : Prop := alphabetJoinsRow.holds Tryd.pinned (OpenSpec.ofChange alphabetJoinsSpec)

/-- ITS FALSE NEIGHBOUR: 'it returns false'. Refute it at one input. -/
def alphabetJoinsWrong : ChangeSpec := { name := "alphabetJoins", fn := fun _ => fun
  | [d1, d2, d3] => { results := [.lit (.bool false)], args := [d1, d2, d3] }
  | _ => none }
def AlphabetJoinsWrongFalsely : Prop := alphabetJoinsRow.holds Tryd.pinned (OpenSpec.ofChange alphabetJoinsWrong)

/-- 'gazetteerlaw10.AlphabetFolds': WHATEVER THE INPUT: true; the input reads as it did. -/
def alphabetFoldsSpec : ChangeSpec := { name := "alphabetFolds", fn := fun _ => fun
  | [d1, d2] => { results := [.lit (.bool true)], args := [d1, d2] }
  | _ => none }
def alphabetFoldsRow : OpenClaim := { program := "ytafbgfdidmepaaadoor", sum := "896f11d291032242cacc0bd5e01d080f521682ae1c7f0446845bcc118411ad83", func := "gazetteer/gazetteerlaw10.AlphabetFolds", spec := "alphabetFolds", inPlace := ["internal/bytealg.IndexByteString", "internal/bytealg.IndexString", "internal/abi.NoEscape"], unfollowed := true, recurses := true, named := ["strconv.ErrSyntax", "strconv.ErrRange", "internal/strconv.uint64pow10", "math/bits.deBruijn32tab", "math/bits.deBruijn64tab", "internal/bytealg.MaxLen"], apart := false, laid := [("math/bits.deBruijn32tab", laid_math_bits_deBruijn32tab), ("math/bits.deBruijn64tab", laid_math_bits_deBruijn64tab), ("internal/strconv.uint64pow10", laid_internal_strconv_uint64pow10), ("strconv.ErrRange", laid_strconv_ErrRange), ("strconv.ErrSyntax", laid_strconv_ErrSyntax)] }
def AlphabetFoldsSaid : Prop := alphabetFoldsRow.holds Tryd.pinned (OpenSpec.ofChange alphabetFoldsSpec)

/-- ITS FALSE NEIGHBOUR: 'it returns false'. Refute it at one input. -/
def alphabetFoldsWrong : ChangeSpec := { name := "alphabetFolds", fn := fun _ => fun
  | [d1, d2] => { results := [.lit (.bool false)], args := [d1, d2] }
  | _ => none }
def AlphabetFoldsWrongFalsely : Prop := alphabetFoldsRow.holds Tryd.pinned (OpenSpec.ofChange alphabetFoldsWrong)

/-- 'gazetteerlaw10.AlphabetErrors': WHATEVER THE INPUT: true; the input reads as it did. -/
def alphabetErrorsSpec : ChangeSpec := { name := "alphabetErrors", fn := fun _ => fun
  | [d1, d2] => { results := [.lit (.bool true)], args := [d1, d2] }
  | _ => none }
def alphabetErrorsRow : OpenClaim := { program := "ytafbgfdidmepaaadoor", sum := "896f11d291032242cacc0bd5e01d080f521682ae1c7f0446845bcc118411ad83", func := "gazetteer/gazetteerlaw10.AlphabetErrors", spec := "alphabetErrors", inPlace := ["internal/bytealg.IndexByteString", "internal/bytealg.IndexString", "internal/abi.NoEscape"], unfollowed := true, recurses := true, named := ["strconv.ErrSyntax", "strconv.ErrRange", "internal/strconv.uint64pow10", "math/bits.deBruijn32tab", "math/bits.deBruijn64tab", "internal/bytealg.MaxLen"], apart := false, laid := [("math/bits.deBruijn32tab", laid_math_bits_deBruijn32tab), ("math/bits.deBruijn64tab", laid_math_bits_deBruijn64tab), ("internal/strconv.uint64pow10", laid_internal_strconv_uint64pow10), ("strconv.ErrRange", laid_strconv_ErrRange), ("strconv.ErrSyntax", laid_strconv_ErrSyntax)] }
def AlphabetErrorsSaid : Prop := alphabetErrorsRow.holds Tryd.pinned (OpenSpec.ofChange alphabetErrorsSpec)

/-- ITS FALSE NEIGHBOUR: 'it returns false'. Refute it at one input. -/
def alphabetErrorsWrong : ChangeSpec := { name := "alphabetErrors", fn := fun _ => fun
  | [d1, d2] => { results := [.lit (.bool false)], args := [d1, d2] }
  | _ => none }
def AlphabetErrorsWrongFalsely : Prop := alphabetErrorsRow.holds Tryd.pinned (OpenSpec.ofChange alphabetErrorsWrong)

/-- 'gazetteerlaw10.AlphabetParts': WHATEVER THE INPUT: true; the input reads as it did. -/
def alphabetPartsSpec : ChangeSpec := { name := "alphabetParts", fn := fun _ => fun
  | [d1, d2, d3] => { results := [.lit (.bool true)], args := [d1, d2, d3] }
  | _ => none }
def alphabetPartsRow : OpenClaim := { program := "ytafbgfdidmepaaadoor", sum := "896f11d291032242cacc0bd5e01d080f521682ae1c7f0446845bcc118411ad83", func := "gazetteer/gazetteerlaw10.AlphabetParts", spec := "alphabetParts", inPlace := ["internal/bytealg.IndexByteString", "internal/bytealg.IndexString", "internal/abi.NoEscape"], unfollowed := true, recurses := true, named := ["strconv.ErrSyntax", "strconv.ErrRange", "internal/strconv.uint64pow10", "math/bits.deBruijn32tab", "math/bits.deBruijn64tab", "internal/bytealg.MaxLen"], apart := false, laid := [("math/bits.deBruijn32tab", laid_math_bits_deBruijn32tab), ("math/bits.deBruijn64tab", laid_math_bits_deBruijn64tab), ("internal/strconv.uint64pow10", laid_internal_strconv_uint64pow10), ("strconv.ErrRange", laid_strconv_ErrRange), ("strconv.ErrSyntax", laid_strconv_ErrSyntax)] }
def AlphabetPartsSaid : Prop := alphabetPartsRow.holds Tryd.pinned (OpenSpec.ofChange alphabetPartsSpec)

/-- ITS FALSE NEIGHBOUR: 'it returns false'. Refute it at one input. -/
def alphabetPartsWrong : ChangeSpec := { name := "alphabetParts", fn := fun _ => fun
  | [d1, d2, d3] => { results := [.lit (.bool false)], args := [d1, d2, d3] }
  | _ => none }
def AlphabetPartsWrongFalsely : Prop := alphabetPartsRow.holds Tryd.pinned (OpenSpec.ofChange alphabetPartsWrong)

/-- 'gazetteerlaw10.AlphabetFewer': WHATEVER THE INPUT: true; the input reads as it did. -/
def alphabetFewerSpec : ChangeSpec := { name := "alphabetFewer", fn := fun _ => fun
  | [d] => { results := [.lit (.bool true)], args := [d] }
  | _ => none }
def alphabetFewerRow : OpenClaim := { program := "ytafbgfdidmepaaadoor", sum := "896f11d291032242cacc0bd5e01d080f521682ae1c7f0446845bcc118411ad83", func := "gazetteer/gazetteerlaw10.AlphabetFewer", spec := "alphabetFewer", inPlace := ["internal/bytealg.IndexByteString", "internal/bytealg.IndexString", "internal/abi.NoEscape"], unfollowed := true, recurses := true, named := ["strconv.ErrSyntax", "strconv.ErrRange", "internal/strconv.uint64pow10", "math/bits.deBruijn32tab", "math/bits.deBruijn64tab", "internal/bytealg.MaxLen"], apart := false, laid := [("math/bits.deBruijn32tab", laid_math_bits_deBruijn32tab), ("math/bits.deBruijn64tab", laid_math_bits_deBruijn64tab), ("internal/strconv.uint64pow10", laid_internal_strconv_uint64pow10), ("strconv.ErrRange", laid_strconv_ErrRange), ("strconv.ErrSyntax", laid_strconv_ErrSyntax)] }
def AlphabetFewerSaid : Prop := alphabetFewerRow.holds Tryd.pinned (OpenSpec.ofChange alphabetFewerSpec)

/-- ITS FALSE NEIGHBOUR: 'it returns false'. Refute it at one input. -/
def alphabetFewerWrong : ChangeSpec := { name := "alphabetFewer", fn := fun _ => fun
  | [d] => { results := [.lit (.bool false)], args := [d] }
  | _ => none }
def AlphabetFewerWrongFalsely : Prop := alphabetFewerRow.holds Tryd.pinned (OpenSpec.ofChange alphabetFewerWrong)

/-- 'gazetteerlaw10.AlphabetBytes': WHATEVER THE INPUT: true; the input reads as it did. -/
def alphabetBytesSpec : ChangeSpec := { name := "alphabetBytes", fn := fun _ => fun
  | [d] => { results := [.lit (.bool true)], args := [d] }
  | _ => none }
def alphabetBytesRow : OpenClaim := { program := "ytafbgfdidmepaaadoor", sum := "896f11d291032242cacc0bd5e01d080f521682ae1c7f0446845bcc118411ad83", func := "gazetteer/gazetteerlaw10.AlphabetBytes", spec := "alphabetBytes", inPlace := ["internal/bytealg.IndexByteString", "internal/bytealg.IndexString", "internal/abi.NoEscape"], unfollowed := true, recurses := true, named := ["strconv.ErrSyntax", "strconv.ErrRange", "internal/strconv.uint64pow10", "math/bits.deBruijn32tab", "math/bits.deBruijn64tab", "internal/bytealg.MaxLen"], apart := false, laid := [("math/bits.deBruijn32tab", laid_math_bits_deBruijn32tab), ("math/bits.deBruijn64tab", laid_math_bits_deBruijn64tab), ("internal/strconv.uint64pow10", laid_internal_strconv_uint64pow10), ("strconv.ErrRange", laid_strconv_ErrRange), ("strconv.ErrSyntax", laid_strconv_ErrSyntax)] }
def AlphabetBytesSaid : Prop := alphabetBytesRow.holds Tryd.pinned (OpenSpec.ofChange alphabetBytesSpec)

/-- ITS FALSE NEIGHBOUR: 'it returns false'. Refute it at one input. -/
def alphabetBytesWrong : ChangeSpec := { name := "alphabetBytes", fn := fun _ => fun
  | [d] => { results := [.lit (.bool false)], args := [d] }
  | _ => none }
def AlphabetBytesWrongFalsely : Prop := alphabetBytesRow.holds Tryd.pinned (OpenSpec.ofChange alphabetBytesWrong)

/- THE SECOND FORM. 'bulk': how many values and letters a reading holds, each counted each time it is reached (what is shared counts as often as it is met; a slice's spare places count too). A statement '..UptoSaid' is the law's where the arguments, and the package variables that the reading takes, are together of bulk at most 1048576: NARROWER than '..Said'. Prove '..Said' where nothing that the law and all that it calls make is longer than what came in: it says more and counts as full. Else prove '..UptoSaid'. A law counts once. -/
mutual
def uptoBulk {H : Type} : DataW H → Nat
  | .lit (.string bytes) => bytes.length + 1
  | .lit _ => 1
  | .nil => 1
  | .ptr d => uptoBulk d + 1
  | .slice elems spare => uptoBulkAll elems + uptoBulkAll spare + 1
  | .agg parts => uptoBulkAll parts + 1
  | .iface _ d => uptoBulk d + 1
  | .map entries => uptoBulkEntries entries + 1
  | .held _ => 1
def uptoBulkAll {H : Type} : List (DataW H) → Nat
  | [] => 0
  | d :: r => uptoBulk d + uptoBulkAll r
def uptoBulkEntries {H : Type} : List (Lit × DataW H) → Nat
  | [] => 0
  | x :: r => uptoBulkEntry x + uptoBulkEntries r
def uptoBulkEntry {H : Type} : Lit × DataW H → Nat
  | (.string bytes, d) => bytes.length + uptoBulk d + 1
  | (_, d) => uptoBulk d + 1
 end
def uptoSmall : (H : Type) → List (DataW H) → Bool := fun _ ds => decide (uptoBulkAll ds ≤ 1048576)
def OpenSpec.upto (s : _root_.Go.ChangeSpec) : _root_.Go.OpenSpec := { _root_.Go.OpenSpec.ofChange s with cond := some uptoSmall }

/-- 'gazetteerlaw10.AlphabetMatchesReference', WHERE WHAT IT READS IS OF BULK AT MOST 1048576: true; the input reads as it did. -/
def alphabetMatchesReferenceUptoRow : OpenClaim := { program := "ytafbgfdidmepaaadoor", sum := "896f11d291032242cacc0bd5e01d080f521682ae1c7f0446845bcc118411ad83", func := "gazetteer/gazetteerlaw10.AlphabetMatchesReference", spec := "alphabetMatchesReference", inPlace := ["internal/bytealg.IndexByteString", "internal/bytealg.IndexString", "internal/abi.NoEscape"], unfollowed := true, recurses := true, named := ["strconv.ErrSyntax", "strconv.ErrRange", "internal/strconv.uint64pow10", "math/bits.deBruijn32tab", "math/bits.deBruijn64tab", "internal/bytealg.MaxLen"], apart := false, laid := [("math/bits.deBruijn32tab", laid_math_bits_deBruijn32tab), ("math/bits.deBruijn64tab", laid_math_bits_deBruijn64tab), ("internal/strconv.uint64pow10", laid_internal_strconv_uint64pow10), ("strconv.ErrRange", laid_strconv_ErrRange), ("strconv.ErrSyntax", laid_strconv_ErrSyntax)], narrowed := true }
def AlphabetMatchesReferenceUptoSaid : Prop := alphabetMatchesReferenceUptoRow.holds Tryd.pinned (OpenSpec.upto alphabetMatchesReferenceSpec)

/-- 'gazetteerlaw10.AlphabetReads', WHERE WHAT IT READS IS OF BULK AT MOST 1048576: true; the input reads as it did. -/
def alphabetReadsUptoRow : OpenClaim := { program := "ytafbgfdidmepaaadoor", sum := "896f11d291032242cacc0bd5e01d080f521682ae1c7f0446845bcc118411ad83", func := "gazetteer/gazetteerlaw10.AlphabetReads", spec := "alphabetReads", inPlace := ["internal/bytealg.IndexByteString", "internal/bytealg.IndexString", "internal/abi.NoEscape"], unfollowed := true, recurses := true, named := ["strconv.ErrSyntax", "strconv.ErrRange", "internal/strconv.uint64pow10", "math/bits.deBruijn32tab", "math/bits.deBruijn64tab", "internal/bytealg.MaxLen"], apart := false, laid := [("math/bits.deBruijn32tab", laid_math_bits_deBruijn32tab), ("math/bits.deBruijn64tab", laid_math_bits_deBruijn64tab), ("internal/strconv.uint64pow10", laid_internal_strconv_uint64pow10), ("strconv.ErrRange", laid_strconv_ErrRange), ("strconv.ErrSyntax", laid_strconv_ErrSyntax)], narrowed := true }
def AlphabetReadsUptoSaid : Prop := alphabetReadsUptoRow.holds Tryd.pinned (OpenSpec.upto alphabetReadsSpec)

/-- 'gazetteerlaw10.AlphabetJoins', WHERE WHAT IT READS IS OF BULK AT MOST 1048576: true; the input reads as it did. -/
def alphabetJoinsUptoRow : OpenClaim := { program := "ytafbgfdidmepaaadoor", sum := "896f11d291032242cacc0bd5e01d080f521682ae1c7f0446845bcc118411ad83", func := "gazetteer/gazetteerlaw10.AlphabetJoins", spec := "alphabetJoins", inPlace := ["internal/bytealg.IndexByteString", "internal/bytealg.IndexString", "internal/abi.NoEscape"], unfollowed := true, recurses := true, named := ["strconv.ErrSyntax", "strconv.ErrRange", "internal/strconv.uint64pow10", "math/bits.deBruijn32tab", "math/bits.deBruijn64tab", "internal/bytealg.MaxLen"], apart := false, laid := [("math/bits.deBruijn32tab", laid_math_bits_deBruijn32tab), ("math/bits.deBruijn64tab", laid_math_bits_deBruijn64tab), ("internal/strconv.uint64pow10", laid_internal_strconv_uint64pow10), ("strconv.ErrRange", laid_strconv_ErrRange), ("strconv.ErrSyntax", laid_strconv_ErrSyntax)], narrowed := true }
def AlphabetJoinsUptoSaid : Prop := alphabetJoinsUptoRow.holds Tryd.pinned (OpenSpec.upto alphabetJoinsSpec)

/-- 'gazetteerlaw10.AlphabetFolds', WHERE WHAT IT READS IS OF BULK AT MOST 1048576: true; the input reads as it did. -/
def alphabetFoldsUptoRow : OpenClaim := { program := "ytafbgfdidmepaaadoor", sum := "896f11d291032242cacc0bd5e01d080f521682ae1c7f0446845bcc118411ad83", func := "gazetteer/gazetteerlaw10.AlphabetFolds", spec := "alphabetFolds", inPlace := ["internal/bytealg.IndexByteString", "internal/bytealg.IndexString", "internal/abi.NoEscape"], unfollowed := true, recurses := true, named := ["strconv.ErrSyntax", "strconv.ErrRange", "internal/strconv.uint64pow10", "math/bits.deBruijn32tab", "math/bits.deBruijn64tab", "internal/bytealg.MaxLen"], apart := false, laid := [("math/bits.deBruijn32tab", laid_math_bits_deBruijn32tab), ("math/bits.deBruijn64tab", laid_math_bits_deBruijn64tab), ("internal/strconv.uint64pow10", laid_internal_strconv_uint64pow10), ("strconv.ErrRange", laid_strconv_ErrRange), ("strconv.ErrSyntax", laid_strconv_ErrSyntax)], narrowed := true }
def AlphabetFoldsUptoSaid : Prop := alphabetFoldsUptoRow.holds Tryd.pinned (OpenSpec.upto alphabetFoldsSpec)

/-- 'gazetteerlaw10.AlphabetErrors', WHERE WHAT IT READS IS OF BULK AT MOST 1048576: true; the input reads as it did. -/
def alphabetErrorsUptoRow : OpenClaim := { program := "ytafbgfdidmepaaadoor", sum := "896f11d291032242cacc0bd5e01d080f521682ae1c7f0446845bcc118411ad83", func := "gazetteer/gazetteerlaw10.AlphabetErrors", spec := "alphabetErrors", inPlace := ["internal/bytealg.IndexByteString", "internal/bytealg.IndexString", "internal/abi.NoEscape"], unfollowed := true, recurses := true, named := ["strconv.ErrSyntax", "strconv.ErrRange", "internal/strconv.uint64pow10", "math/bits.deBruijn32tab", "math/bits.deBruijn64tab", "internal/bytealg.MaxLen"], apart := false, laid := [("math/bits.deBruijn32tab", laid_math_bits_deBruijn32tab), ("math/bits.deBruijn64tab", laid_math_bits_deBruijn64tab), ("internal/strconv.uint64pow10", laid_internal_strconv_uint64pow10), ("strconv.ErrRange", laid_strconv_ErrRange), ("strconv.ErrSyntax", laid_strconv_ErrSyntax)], narrowed := true }
def AlphabetErrorsUptoSaid : Prop := alphabetErrorsUptoRow.holds Tryd.pinned (OpenSpec.upto alphabetErrorsSpec)

/-- 'gazetteerlaw10.AlphabetParts', WHERE WHAT IT READS IS OF BULK AT MOST 1048576: true; the input reads as it did. -/
def alphabetPartsUptoRow : OpenClaim := { program := "ytafbgfdidmepaaadoor", sum := "896f11d291032242cacc0bd5e01d080f521682ae1c7f0446845bcc118411ad83", func := "gazetteer/gazetteerlaw10.AlphabetParts", spec := "alphabetParts", inPlace := ["internal/bytealg.IndexByteString", "internal/bytealg.IndexString", "internal/abi.NoEscape"], unfollowed := true, recurses := true, named := ["strconv.ErrSyntax", "strconv.ErrRange", "internal/strconv.uint64pow10", "math/bits.deBruijn32tab", "math/bits.deBruijn64tab", "internal/bytealg.MaxLen"], apart := false, laid := [("math/bits.deBruijn32tab", laid_math_bits_deBruijn32tab), ("math/bits.deBruijn64tab", laid_math_bits_deBruijn64tab), ("internal/strconv.uint64pow10", laid_internal_strconv_uint64pow10), ("strconv.ErrRange", laid_strconv_ErrRange), ("strconv.ErrSyntax", laid_strconv_ErrSyntax)], narrowed := true }
def AlphabetPartsUptoSaid : Prop := alphabetPartsUptoRow.holds Tryd.pinned (OpenSpec.upto alphabetPartsSpec)

/-- 'gazetteerlaw10.AlphabetFewer', WHERE WHAT IT READS IS OF BULK AT MOST 1048576: true; the input reads as it did. -/
def alphabetFewerUptoRow : OpenClaim := { program := "ytafbgfdidmepaaadoor", sum := "896f11d291032242cacc0bd5e01d080f521682ae1c7f0446845bcc118411ad83", func := "gazetteer/gazetteerlaw10.AlphabetFewer", spec := "alphabetFewer", inPlace := ["internal/bytealg.IndexByteString", "internal/bytealg.IndexString", "internal/abi.NoEscape"], unfollowed := true, recurses := true, named := ["strconv.ErrSyntax", "strconv.ErrRange", "internal/strconv.uint64pow10", "math/bits.deBruijn32tab", "math/bits.deBruijn64tab", "internal/bytealg.MaxLen"], apart := false, laid := [("math/bits.deBruijn32tab", laid_math_bits_deBruijn32tab), ("math/bits.deBruijn64tab", laid_math_bits_deBruijn64tab), ("internal/strconv.uint64pow10", laid_internal_strconv_uint64pow10), ("strconv.ErrRange", laid_strconv_ErrRange), ("strconv.ErrSyntax", laid_strconv_ErrSyntax)], narrowed := true }
def AlphabetFewerUptoSaid : Prop := alphabetFewerUptoRow.holds Tryd.pinned (OpenSpec.upto alphabetFewerSpec)

/-- 'gazetteerlaw10.AlphabetBytes', WHERE WHAT IT READS IS OF BULK AT MOST 1048576: true; the input reads as it did. -/
def alphabetBytesUptoRow : OpenClaim := { program := "ytafbgfdidmepaaadoor", sum := "896f11d291032242cacc0bd5e01d080f521682ae1c7f0446845bcc118411ad83", func := "gazetteer/gazetteerlaw10.AlphabetBytes", spec := "alphabetBytes", inPlace := ["internal/bytealg.IndexByteString", "internal/bytealg.IndexString", "internal/abi.NoEscape"], unfollowed := true, recurses := true, named := ["strconv.ErrSyntax", "strconv.ErrRange", "internal/strconv.uint64pow10", "math/bits.deBruijn32tab", "math/bits.deBruijn64tab", "internal/bytealg.MaxLen"], apart := false, laid := [("math/bits.deBruijn32tab", laid_math_bits_deBruijn32tab), ("math/bits.deBruijn64tab", laid_math_bits_deBruijn64tab), ("internal/strconv.uint64pow10", laid_internal_strconv_uint64pow10), ("strconv.ErrRange", laid_strconv_ErrRange), ("strconv.ErrSyntax", laid_strconv_ErrSyntax)], narrowed := true }
def AlphabetBytesUptoSaid : Prop := alphabetBytesUptoRow.holds Tryd.pinned (OpenSpec.upto alphabetBytesSpec)

end Rows
end Go.Proofs.YtafbgfdidmepaaaDoor
