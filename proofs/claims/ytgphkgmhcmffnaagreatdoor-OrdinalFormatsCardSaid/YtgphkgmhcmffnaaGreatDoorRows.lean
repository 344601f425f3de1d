/-
  NARROWER THAN 'FOR EVERY INPUT', by the rows' own cells (each row's printed sentence says how): OrdinalPowers: loops, laid · OrdinalLess: loops, laid · OrdinalTotal: loops, laid · OrdinalAdds: loops, laid · OrdinalMultiplies: loops, laid · OrdinalAlgebra: loops, laid · OrdinalFormats: loops, laid · OrdinalValid: loops, laid · OrdinalParts: loops, laid.
  DERIVED. THE GIVEN ROWS OF THIS SEAT. 9 by the template 'for every input the law returns true; each argument reads behind the call as it read before'; 0 by the template 'total and deterministic' (their statements: YtgphkgmhcmffnaaGreatDoorTotals.lean).
  GIVEN WITH THE SEED: the statements are not yours to turn. If you find one false, say at which input.
  Laid BY PROGRAM, IN A SANDBOX (cutbox-rows.mjs): the forced cells as the released guide's own fill.sh prints them over the translation 1a39991fa438a374… (all of the seat's roots in one cut). By AI agents, Wed Nov 11 2026. No macro, syntax, notation, axiom, sorry.
-/
import Derived.Test.YtgphkgmhcmffnaaGreatDoorChecked
import GoSem.Claim
import GoSem.ClaimJoined
import GoSem.ClaimMapViews
import Derived.JoinedTies
import Derived.KernelRfl
namespace Go.Proofs.YtgphkgmhcmffnaaGreatDoor
/- THE CELL 'sum', in the pinned program and in every row, IS THE sha256 OF THE DUMP (.gsa) THAT YtgphkgmhcmffnaaGreatDoorProg.lean LOADS. Nothing in Lean hashes anything: it is a label: what it is worth is what the hold of that sum in a sandbox is worth. -/
noncomputable def Tryz.pinned : Pinned := { name := "ytgphkgmhcmffnaagreatdoor", sum := "1a39991fa438a374bc41e497abefc6af3d6e3002cd06ec8771562c9439ddade9", checked := Tryz.checked }
namespace Rows
def none {H : Type} : Left H := { results := [], args := [] }

/- WHAT THE LISTED PACKAGE-LEVEL VARIABLES READ AS WHEN THE CALL BEGINS. Each datum BY PROGRAM (the guide's laid-datum.mjs) off the statement by which the dump's own 'gosem.cut.vars' lays the variable. In a bare row this is a premise. The card (YtgphkgmhcmffnaaGreatDoorCards.lean) ties it to the program's text. -/
def laid_math_bits_deBruijn32tab {H : Type} : DataW H := .agg [.lit (.int .u8 0), .lit (.int .u8 1), .lit (.int .u8 28), .lit (.int .u8 2), .lit (.int .u8 29), .lit (.int .u8 14), .lit (.int .u8 24), .lit (.int .u8 3), .lit (.int .u8 30), .lit (.int .u8 22), .lit (.int .u8 20), .lit (.int .u8 15), .lit (.int .u8 25), .lit (.int .u8 17), .lit (.int .u8 4), .lit (.int .u8 8), .lit (.int .u8 31), .lit (.int .u8 27), .lit (.int .u8 13), .lit (.int .u8 23), .lit (.int .u8 21), .lit (.int .u8 19), .lit (.int .u8 16), .lit (.int .u8 7), .lit (.int .u8 26), .lit (.int .u8 12), .lit (.int .u8 18), .lit (.int .u8 6), .lit (.int .u8 11), .lit (.int .u8 5), .lit (.int .u8 10), .lit (.int .u8 9)]
def laid_math_bits_deBruijn64tab {H : Type} : DataW H := .agg [.lit (.int .u8 0), .lit (.int .u8 1), .lit (.int .u8 56), .lit (.int .u8 2), .lit (.int .u8 57), .lit (.int .u8 49), .lit (.int .u8 28), .lit (.int .u8 3), .lit (.int .u8 61), .lit (.int .u8 58), .lit (.int .u8 42), .lit (.int .u8 50), .lit (.int .u8 38), .lit (.int .u8 29), .lit (.int .u8 17), .lit (.int .u8 4), .lit (.int .u8 62), .lit (.int .u8 47), .lit (.int .u8 59), .lit (.int .u8 36), .lit (.int .u8 45), .lit (.int .u8 43), .lit (.int .u8 51), .lit (.int .u8 22), .lit (.int .u8 53), .lit (.int .u8 39), .lit (.int .u8 33), .lit (.int .u8 30), .lit (.int .u8 24), .lit (.int .u8 18), .lit (.int .u8 12), .lit (.int .u8 5), .lit (.int .u8 63), .lit (.int .u8 55), .lit (.int .u8 48), .lit (.int .u8 27), .lit (.int .u8 60), .lit (.int .u8 41), .lit (.int .u8 37), .lit (.int .u8 16), .lit (.int .u8 46), .lit (.int .u8 35), .lit (.int .u8 44), .lit (.int .u8 21), .lit (.int .u8 52), .lit (.int .u8 32), .lit (.int .u8 23), .lit (.int .u8 11), .lit (.int .u8 54), .lit (.int .u8 26), .lit (.int .u8 40), .lit (.int .u8 15), .lit (.int .u8 34), .lit (.int .u8 20), .lit (.int .u8 31), .lit (.int .u8 10), .lit (.int .u8 25), .lit (.int .u8 14), .lit (.int .u8 19), .lit (.int .u8 9), .lit (.int .u8 13), .lit (.int .u8 8), .lit (.int .u8 7), .lit (.int .u8 6)]
def laid_internal_strconv_uint64pow10 {H : Type} : DataW H := .agg [.lit (.int .u64 1), .lit (.int .u64 10), .lit (.int .u64 100), .lit (.int .u64 1000), .lit (.int .u64 10000), .lit (.int .u64 100000), .lit (.int .u64 1000000), .lit (.int .u64 10000000), .lit (.int .u64 100000000), .lit (.int .u64 1000000000), .lit (.int .u64 10000000000), .lit (.int .u64 100000000000), .lit (.int .u64 1000000000000), .lit (.int .u64 10000000000000), .lit (.int .u64 100000000000000), .lit (.int .u64 1000000000000000), .lit (.int .u64 10000000000000000), .lit (.int .u64 100000000000000000), .lit (.int .u64 1000000000000000000), .lit (.int .u64 10000000000000000000)]
def laid_strconv_ErrRange {H : Type} : DataW H := .iface "*errors.errorString" (.ptr (.agg [.lit (.string [118, 97, 108, 117, 101, 32, 111, 117, 116, 32, 111, 102, 32, 114, 97, 110, 103, 101])]))
def laid_strconv_ErrSyntax {H : Type} : DataW H := .iface "*errors.errorString" (.ptr (.agg [.lit (.string [105, 110, 118, 97, 108, 105, 100, 32, 115, 121, 110, 116, 97, 120])]))

/-- 'lispproverlaw3.OrdinalPowers': WHATEVER THE INPUT: true; the input reads as it did. -/
def ordinalPowersSpec : ChangeSpec := { name := "ordinalPowers", fn := fun _ => fun
  | [d1, d2, d3] => { results := [.lit (.bool true)], args := [d1, d2, d3] }
  | _ => none }
def ordinalPowersRow : OpenClaim := { program := "ytgphkgmhcmffnaagreatdoor", sum := "1a39991fa438a374bc41e497abefc6af3d6e3002cd06ec8771562c9439ddade9", func := "lispprover/lispproverlaw3.OrdinalPowers", spec := "ordinalPowers", inPlace := ["internal/abi.NoEscape"], unfollowed := true, recurses := true, named := ["internal/strconv.uint64pow10", "math/bits.deBruijn32tab", "math/bits.deBruijn64tab", "strconv.ErrSyntax", "strconv.ErrRange"], loops := true, apart := false, laid := [("math/bits.deBruijn32tab", laid_math_bits_deBruijn32tab), ("math/bits.deBruijn64tab", laid_math_bits_deBruijn64tab), ("internal/strconv.uint64pow10", laid_internal_strconv_uint64pow10), ("strconv.ErrRange", laid_strconv_ErrRange), ("strconv.ErrSyntax", laid_strconv_ErrSyntax)] }
def OrdinalPowersSaid : Prop := ordinalPowersRow.holds Tryz.pinned (OpenSpec.ofChange ordinalPowersSpec)

/-- ITS FALSE NEIGHBOUR: 'it returns false'. Refute it at one input. -/
def ordinalPowersWrong : ChangeSpec := { name := "ordinalPowers", fn := fun _ => fun
  | [d1, d2, d3] => { results := [.lit (.bool false)], args := [d1, d2, d3] }
  | _ => none }
def OrdinalPowersWrongFalsely : Prop := ordinalPowersRow.holds Tryz.pinned (OpenSpec.ofChange ordinalPowersWrong)

/-- 'lispproverlaw3.OrdinalLess': WHATEVER THE INPUT: true; the input reads as it did. -/
def ordinalLessSpec : ChangeSpec := { name := "ordinalLess", fn := fun _ => fun
  | [d1, d2, d3] => { results := [.lit (.bool true)], args := [d1, d2, d3] }
  | _ => none }
def ordinalLessRow : OpenClaim := { program := "ytgphkgmhcmffnaagreatdoor", sum := "1a39991fa438a374bc41e497abefc6af3d6e3002cd06ec8771562c9439ddade9", func := "lispprover/lispproverlaw3.OrdinalLess", spec := "ordinalLess", inPlace := ["internal/abi.NoEscape"], unfollowed := true, recurses := true, named := ["internal/strconv.uint64pow10", "math/bits.deBruijn32tab", "math/bits.deBruijn64tab", "strconv.ErrSyntax", "strconv.ErrRange"], loops := true, apart := false, laid := [("math/bits.deBruijn32tab", laid_math_bits_deBruijn32tab), ("math/bits.deBruijn64tab", laid_math_bits_deBruijn64tab), ("internal/strconv.uint64pow10", laid_internal_strconv_uint64pow10), ("strconv.ErrRange", laid_strconv_ErrRange), ("strconv.ErrSyntax", laid_strconv_ErrSyntax)] }
def OrdinalLessSaid : Prop := ordinalLessRow.holds Tryz.pinned (OpenSpec.ofChange ordinalLessSpec)

/-- ITS FALSE NEIGHBOUR: 'it returns false'. Refute it at one input. -/
def ordinalLessWrong : ChangeSpec := { name := "ordinalLess", fn := fun _ => fun
  | [d1, d2, d3] => { results := [.lit (.bool false)], args := [d1, d2, d3] }
  | _ => none }
def OrdinalLessWrongFalsely : Prop := ordinalLessRow.holds Tryz.pinned (OpenSpec.ofChange ordinalLessWrong)

/-- 'lispproverlaw3.OrdinalTotal': WHATEVER THE INPUT: true; the input reads as it did. -/
def ordinalTotalSpec : ChangeSpec := { name := "ordinalTotal", fn := fun _ => fun
  | [d1, d2, d3] => { results := [.lit (.bool true)], args := [d1, d2, d3] }
  | _ => none }
def ordinalTotalRow : OpenClaim := { program := "ytgphkgmhcmffnaagreatdoor", sum := "1a39991fa438a374bc41e497abefc6af3d6e3002cd06ec8771562c9439ddade9", func := "lispprover/lispproverlaw3.OrdinalTotal", spec := "ordinalTotal", inPlace := ["internal/abi.NoEscape"], unfollowed := true, recurses := true, named := ["internal/strconv.uint64pow10", "math/bits.deBruijn32tab", "math/bits.deBruijn64tab", "strconv.ErrSyntax", "strconv.ErrRange"], loops := true, apart := false, laid := [("math/bits.deBruijn32tab", laid_math_bits_deBruijn32tab), ("math/bits.deBruijn64tab", laid_math_bits_deBruijn64tab), ("internal/strconv.uint64pow10", laid_internal_strconv_uint64pow10), ("strconv.ErrRange", laid_strconv_ErrRange), ("strconv.ErrSyntax", laid_strconv_ErrSyntax)] }
def OrdinalTotalSaid : Prop := ordinalTotalRow.holds Tryz.pinned (OpenSpec.ofChange ordinalTotalSpec)

/-- ITS FALSE NEIGHBOUR: 'it returns false'. Refute it at one input. -/
def ordinalTotalWrong : ChangeSpec := { name := "ordinalTotal", fn := fun _ => fun
  | [d1, d2, d3] => { results := [.lit (.bool false)], args := [d1, d2, d3] }
  | _ => none }
def OrdinalTotalWrongFalsely : Prop := ordinalTotalRow.holds Tryz.pinned (OpenSpec.ofChange ordinalTotalWrong)

/-- 'lispproverlaw3.OrdinalAdds': WHATEVER THE INPUT: true; the input reads as it did. -/
def ordinalAddsSpec : ChangeSpec := { name := "ordinalAdds", fn := fun _ => fun
  | [d1, d2] => { results := [.lit (.bool true)], args := [d1, d2] }
  | _ => none }
def ordinalAddsRow : OpenClaim := { program := "ytgphkgmhcmffnaagreatdoor", sum := "1a39991fa438a374bc41e497abefc6af3d6e3002cd06ec8771562c9439ddade9", func := "lispprover/lispproverlaw3.OrdinalAdds", spec := "ordinalAdds", inPlace := ["internal/abi.NoEscape"], unfollowed := true, recurses := true, named := ["internal/strconv.uint64pow10", "math/bits.deBruijn32tab", "math/bits.deBruijn64tab", "strconv.ErrSyntax", "strconv.ErrRange"], loops := true, apart := false, laid := [("math/bits.deBruijn32tab", laid_math_bits_deBruijn32tab), ("math/bits.deBruijn64tab", laid_math_bits_deBruijn64tab), ("internal/strconv.uint64pow10", laid_internal_strconv_uint64pow10), ("strconv.ErrRange", laid_strconv_ErrRange), ("strconv.ErrSyntax", laid_strconv_ErrSyntax)] }
def OrdinalAddsSaid : Prop := ordinalAddsRow.holds Tryz.pinned (OpenSpec.ofChange ordinalAddsSpec)

/-- ITS FALSE NEIGHBOUR: 'it returns false'. Refute it at one input. -/
def ordinalAddsWrong : ChangeSpec := { name := "ordinalAdds", fn := fun _ => fun
  | [d1, d2] => { results := [.lit (.bool false)], args := [d1, d2] }
  | _ => none }
def OrdinalAddsWrongFalsely : Prop := ordinalAddsRow.holds Tryz.pinned (OpenSpec.ofChange ordinalAddsWrong)

/-- 'lispproverlaw3.OrdinalMultiplies': WHATEVER THE INPUT: true; the input reads as it did. -/
def ordinalMultipliesSpec : ChangeSpec := { name := "ordinalMultiplies", fn := fun _ => fun
  | [d1, d2] => { results := [.lit (.bool true)], args := [d1, d2] }
  | _ => none }
def ordinalMultipliesRow : OpenClaim := { program := "ytgphkgmhcmffnaagreatdoor", sum := "1a39991fa438a374bc41e497abefc6af3d6e3002cd06ec8771562c9439ddade9", func := "lispprover/lispproverlaw3.OrdinalMultiplies", spec := "ordinalMultiplies", inPlace := ["internal/abi.NoEscape"], unfollowed := true, recurses := true, named := ["internal/strconv.uint64pow10", "math/bits.deBruijn32tab", "math/bits.deBruijn64tab", "strconv.ErrSyntax", "strconv.ErrRange"], loops := true, apart := false, laid := [("math/bits.deBruijn32tab", laid_math_bits_deBruijn32tab), ("math/bits.deBruijn64tab", laid_math_bits_deBruijn64tab), ("internal/strconv.uint64pow10", laid_internal_strconv_uint64pow10), ("strconv.ErrRange", laid_strconv_ErrRange), ("strconv.ErrSyntax", laid_strconv_ErrSyntax)] }
def OrdinalMultipliesSaid : Prop := ordinalMultipliesRow.holds Tryz.pinned (OpenSpec.ofChange ordinalMultipliesSpec)

/-- ITS FALSE NEIGHBOUR: 'it returns false'. Refute it at one input. -/
def ordinalMultipliesWrong : ChangeSpec := { name := "ordinalMultiplies", fn := fun _ => fun
  | [d1, d2] => { results := [.lit (.bool false)], args := [d1, d2] }
  | _ => none }
def OrdinalMultipliesWrongFalsely : Prop := ordinalMultipliesRow.holds Tryz.pinned (OpenSpec.ofChange ordinalMultipliesWrong)

/-- 'lispproverlaw3.OrdinalAlgebra': WHATEVER THE INPUT: true; the input reads as it did. -/
def ordinalAlgebraSpec : ChangeSpec := { name := "ordinalAlgebra", fn := fun _ => fun
  | [d1, d2, d3] => { results := [.lit (.bool true)], args := [d1, d2, d3] }
  | _ => none }
def ordinalAlgebraRow : OpenClaim := { program := "ytgphkgmhcmffnaagreatdoor", sum := "1a39991fa438a374bc41e497abefc6af3d6e3002cd06ec8771562c9439ddade9", func := "lispprover/lispproverlaw3.OrdinalAlgebra", spec := "ordinalAlgebra", inPlace := ["internal/abi.NoEscape"], unfollowed := true, recurses := true, named := ["internal/strconv.uint64pow10", "math/bits.deBruijn32tab", "math/bits.deBruijn64tab", "strconv.ErrSyntax", "strconv.ErrRange"], loops := true, apart := false, laid := [("math/bits.deBruijn32tab", laid_math_bits_deBruijn32tab), ("math/bits.deBruijn64tab", laid_math_bits_deBruijn64tab), ("internal/strconv.uint64pow10", laid_internal_strconv_uint64pow10), ("strconv.ErrRange", laid_strconv_ErrRange), ("strconv.ErrSyntax", laid_strconv_ErrSyntax)] }
def OrdinalAlgebraSaid : Prop := ordinalAlgebraRow.holds Tryz.pinned (OpenSpec.ofChange ordinalAlgebraSpec)

/-- ITS FALSE NEIGHBOUR: 'it returns false'. Refute it at one input. -/
def ordinalAlgebraWrong : ChangeSpec := { name := "ordinalAlgebra", fn := fun _ => fun
  | [d1, d2, d3] => { results := [.lit (.bool false)], args := [d1, d2, d3] }
  | _ => none }
def OrdinalAlgebraWrongFalsely : Prop := ordinalAlgebraRow.holds Tryz.pinned (OpenSpec.ofChange ordinalAlgebraWrong)

/-- 'lispproverlaw3.OrdinalFormats': WHATEVER THE INPUT: true; the input reads as it did. -/
def ordinalFormatsSpec : ChangeSpec := { name := "ordinalFormats", fn := fun _ => fun
  | [d1, d2] => { results := [.lit (.bool true)], args := [d1, d2] }
  | _ => none }
def ordinalFormatsRow : OpenClaim := { program := "ytgphkgmhcmffnaagreatdoor", sum := "1a39991fa438a374bc41e497abefc6af3d6e3002cd06ec8771562c9439ddade9", func := "lispprover/lispproverlaw3.OrdinalFormats", spec := "ordinalFormats", inPlace := ["internal/abi.NoEscape"], unfollowed := true, recurses := true, named := ["internal/strconv.uint64pow10", "math/bits.deBruijn32tab", "math/bits.deBruijn64tab", "strconv.ErrSyntax", "strconv.ErrRange"], loops := true, apart := false, laid := [("math/bits.deBruijn32tab", laid_math_bits_deBruijn32tab), ("math/bits.deBruijn64tab", laid_math_bits_deBruijn64tab), ("internal/strconv.uint64pow10", laid_internal_strconv_uint64pow10), ("strconv.ErrRange", laid_strconv_ErrRange), ("strconv.ErrSyntax", laid_strconv_ErrSyntax)] }
def OrdinalFormatsSaid : Prop := ordinalFormatsRow.holds Tryz.pinned (OpenSpec.ofChange ordinalFormatsSpec)

/-- ITS FALSE NEIGHBOUR: 'it returns false'. Refute it at one input. -/
def ordinalFormatsWrong : ChangeSpec := { name := "ordinalFormats", fn := fun _ => fun
  | [d1, d2] => { results := [.lit (.bool false)], args := [d1, d2] }
  | _ => none }
def OrdinalFormatsWrongFalsely : Prop := ordinalFormatsRow.holds Tryz.pinned (OpenSpec.ofChange ordinalFormatsWrong)

/-- 'lispproverlaw3.OrdinalValid': WHATEVER THE INPUT: true; the input reads as it did. -/
def ordinalValidSpec : ChangeSpec := { name := "ordinalValid", fn := fun _ => fun
  | [d1, d2, d3] => { results := [.lit (.bool true)], args := [d1, d2, d3] }
  | _ => none }
def ordinalValidRow : OpenClaim := { program := "ytgphkgmhcmffnaagreatdoor", sum := "1a39991fa438a374bc41e497abefc6af3d6e3002cd06ec8771562c9439ddade9", func := "lispprover/lispproverlaw3.OrdinalValid", spec := "ordinalValid", inPlace := ["internal/abi.NoEscape"], unfollowed := true, recurses := true, named := ["internal/strconv.uint64pow10", "math/bits.deBruijn32tab", "math/bits.deBruijn64tab", "strconv.ErrSyntax", "strconv.ErrRange"], loops := true, apart := false, laid := [("math/bits.deBruijn32tab", laid_math_bits_deBruijn32tab), ("math/bits.deBruijn64tab", laid_math_bits_deBruijn64tab), ("internal/strconv.uint64pow10", laid_internal_strconv_uint64pow10), ("strconv.ErrRange", laid_strconv_ErrRange), ("strconv.ErrSyntax", laid_strconv_ErrSyntax)] }
def OrdinalValidSaid : Prop := ordinalValidRow.holds Tryz.pinned (OpenSpec.ofChange ordinalValidSpec)

/-- ITS FALSE NEIGHBOUR: 'it returns false'. Refute it at one input. -/
def ordinalValidWrong : ChangeSpec := { name := "ordinalValid", fn := fun _ => fun
  | [d1, d2, d3] => { results := [.lit (.bool false)], args := [d1, d2, d3] }
  | _ => none }
def OrdinalValidWrongFalsely : Prop := ordinalValidRow.holds Tryz.pinned (OpenSpec.ofChange ordinalValidWrong)

/-- 'lispproverlaw3.OrdinalParts': WHATEVER THE INPUT: true; the input reads as it did. -/
def ordinalPartsSpec : ChangeSpec := { name := "ordinalParts", fn := fun _ => fun
  | [d1, d2] => { results := [.lit (.bool true)], args := [d1, d2] }
  | _ => none }
def ordinalPartsRow : OpenClaim := { program := "ytgphkgmhcmffnaagreatdoor", sum := "1a39991fa438a374bc41e497abefc6af3d6e3002cd06ec8771562c9439ddade9", func := "lispprover/lispproverlaw3.OrdinalParts", spec := "ordinalParts", inPlace := ["internal/abi.NoEscape"], unfollowed := true, recurses := true, named := ["internal/strconv.uint64pow10", "math/bits.deBruijn32tab", "math/bits.deBruijn64tab", "strconv.ErrSyntax", "strconv.ErrRange"], loops := true, apart := false, laid := [("math/bits.deBruijn32tab", laid_math_bits_deBruijn32tab), ("math/bits.deBruijn64tab", laid_math_bits_deBruijn64tab), ("internal/strconv.uint64pow10", laid_internal_strconv_uint64pow10), ("strconv.ErrRange", laid_strconv_ErrRange), ("strconv.ErrSyntax", laid_strconv_ErrSyntax)] }
def OrdinalPartsSaid : Prop := ordinalPartsRow.holds Tryz.pinned (OpenSpec.ofChange ordinalPartsSpec)

/-- ITS FALSE NEIGHBOUR: 'it returns false'. Refute it at one input. -/
def ordinalPartsWrong : ChangeSpec := { name := "ordinalParts", fn := fun _ => fun
  | [d1, d2] => { results := [.lit (.bool false)], args := [d1, d2] }
  | _ => none }
def OrdinalPartsWrongFalsely : Prop := ordinalPartsRow.holds Tryz.pinned (OpenSpec.ofChange ordinalPartsWrong)

/- THE SECOND FORM. 'bulk': how many values and letters a reading holds, each counted each time it is reached (what is shared counts as often as it is met; a slice's spare places count too). A statement '..UptoSaid' is the law's where the arguments, and the package variables that the reading takes, are together of bulk at most 1048576: NARROWER than '..Said'. Prove '..Said' where nothing that the law and all that it calls make is longer than what came in: it says more and counts as full. Else prove '..UptoSaid'. A law counts once. -/
mutual
def uptoBulk {H : Type} : DataW H → Nat
  | .lit (.string bytes) => bytes.length + 1
  | .lit _ => 1
  | .nil => 1
  | .ptr d => uptoBulk d + 1
  | .slice elems spare => uptoBulkAll elems + uptoBulkAll spare + 1
  | .agg parts => uptoBulkAll parts + 1
  | .iface _ d => uptoBulk d + 1
  | .map entries => uptoBulkEntries entries + 1
  | .held _ => 1
def uptoBulkAll {H : Type} : List (DataW H) → Nat
  | [] => 0
  | d :: r => uptoBulk d + uptoBulkAll r
def uptoBulkEntries {H : Type} : List (Lit × DataW H) → Nat
  | [] => 0
  | x :: r => uptoBulkEntry x + uptoBulkEntries r
def uptoBulkEntry {H : Type} : Lit × DataW H → Nat
  | (.string bytes, d) => bytes.length + uptoBulk d + 1
  | (_, d) => uptoBulk d + 1
 end
def uptoSmall : (H : Type) → List (DataW H) → Bool := fun _ ds => decide (uptoBulkAll ds ≤ 1048576)
def OpenSpec.upto (s : _root_.Go.ChangeSpec) : _root_.Go.OpenSpec := { _root_.Go.OpenSpec.ofChange s with cond := some uptoSmall }

/-- 'lispproverlaw3.OrdinalPowers', WHERE WHAT IT READS IS OF BULK AT MOST 1048576: true; the input reads as it did. -/
def ordinalPowersUptoRow : OpenClaim := { program := "ytgphkgmhcmffnaagreatdoor", sum := "1a39991fa438a374bc41e497abefc6af3d6e3002cd06ec8771562c9439ddade9", func := "lispprover/lispproverlaw3.OrdinalPowers", spec := "ordinalPowers", inPlace := ["internal/abi.NoEscape"], unfollowed := true, recurses := true, named := ["internal/strconv.uint64pow10", "math/bits.deBruijn32tab", "math/bits.deBruijn64tab", "strconv.ErrSyntax", "strconv.ErrRange"], loops := true, apart := false, laid := [("math/bits.deBruijn32tab", laid_math_bits_deBruijn32tab), ("math/bits.deBruijn64tab", laid_math_bits_deBruijn64tab), ("internal/strconv.uint64pow10", laid_internal_strconv_uint64pow10), ("strconv.ErrRange", laid_strconv_ErrRange), ("strconv.ErrSyntax", laid_strconv_ErrSyntax)], narrowed := true }
def OrdinalPowersUptoSaid : Prop := ordinalPowersUptoRow.holds Tryz.pinned (OpenSpec.upto ordinalPowersSpec)

/-- 'lispproverlaw3.OrdinalLess', WHERE WHAT IT READS IS OF BULK AT MOST 1048576: true; the input reads as it did. -/
def ordinalLessUptoRow : OpenClaim := { program := "ytgphkgmhcmffnaagreatdoor", sum := "1a39991fa438a374bc41e497abefc6af3d6e3002cd06ec8771562c9439ddade9", func := "lispprover/lispproverlaw3.OrdinalLess", spec := "ordinalLess", inPlace := ["internal/abi.NoEscape"], unfollowed := true, recurses := true, named := ["internal/strconv.uint64pow10", "math/bits.deBruijn32tab", "math/bits.deBruijn64tab", "strconv.ErrSyntax", "strconv.ErrRange"], loops := true, apart := false, laid := [("math/bits.deBruijn32tab", laid_math_bits_deBruijn32tab), ("math/bits.deBruijn64tab", laid_math_bits_deBruijn64tab), ("internal/strconv.uint64pow10", laid_internal_strconv_uint64pow10), ("strconv.ErrRange", laid_strconv_ErrRange), ("strconv.ErrSyntax", laid_strconv_ErrSyntax)], narrowed := true }
def OrdinalLessUptoSaid : Prop := ordinalLessUptoRow.holds Tryz.pinned (OpenSpec.upto ordinalLessSpec)

/-- 'lispproverlaw3.OrdinalTotal', WHERE WHAT IT READS IS OF BULK AT MOST 1048576: true; the input reads as it did. -/
def ordinalTotalUptoRow : OpenClaim := { program := "ytgphkgmhcmffnaagreatdoor", sum := "1a39991fa438a374bc41e497abefc6af3d6e3002cd06ec8771562c9439ddade9", func := "lispprover/lispproverlaw3.OrdinalTotal", spec := "ordinalTotal", inPlace := ["internal/abi.NoEscape"], unfollowed := true, recurses := true, named := ["internal/strconv.uint64pow10", "math/bits.deBruijn32tab", "math/bits.deBruijn64tab", "strconv.ErrSyntax", "strconv.ErrRange"], loops := true, apart := false, laid := [("math/bits.deBruijn32tab", laid_math_bits_deBruijn32tab), ("math/bits.deBruijn64tab", laid_math_bits_deBruijn64tab), ("internal/strconv.uint64pow10", laid_internal_strconv_uint64pow10), ("strconv.ErrRange", laid_strconv_ErrRange), ("strconv.ErrSyntax", laid_strconv_ErrSyntax)], narrowed := true }
def OrdinalTotalUptoSaid : Prop := ordinalTotalUptoRow.holds Tryz.pinned (OpenSpec.upto ordinalTotalSpec)

/-- 'lispproverlaw3.OrdinalAdds', WHERE WHAT IT READS IS OF BULK AT MOST 1048576: true; the input reads as it did. -/
def ordinalAddsUptoRow : OpenClaim := { program := "ytgphkgmhcmffnaagreatdoor", sum := "1a39991fa438a374bc41e497abefc6af3d6e3002cd06ec8771562c9439ddade9", func := "lispprover/lispproverlaw3.OrdinalAdds", spec := "ordinalAdds", inPlace := ["internal/abi.NoEscape"], unfollowed := true, recurses := true, named := ["internal/strconv.uint64pow10", "math/bits.deBruijn32tab", "math/bits.deBruijn64tab", "strconv.ErrSyntax", "strconv.ErrRange"], loops := true, apart := false, laid := [("math/bits.deBruijn32tab", laid_math_bits_deBruijn32tab), ("math/bits.deBruijn64tab", laid_math_bits_deBruijn64tab), ("internal/strconv.uint64pow10", laid_internal_strconv_uint64pow10), ("strconv.ErrRange", laid_strconv_ErrRange), ("strconv.ErrSyntax", laid_strconv_ErrSyntax)], narrowed := true }
def OrdinalAddsUptoSaid : Prop := ordinalAddsUptoRow.holds Tryz.pinned (OpenSpec.upto ordinalAddsSpec)

/-- 'lispproverlaw3.OrdinalMultiplies', WHERE WHAT IT READS IS OF BULK AT MOST 1048576: true; the input reads as it did. -/
def ordinalMultipliesUptoRow : OpenClaim := { program := "ytgphkgmhcmffnaagreatdoor", sum := "1a39991fa438a374bc41e497abefc6af3d6e3002cd06ec8771562c9439ddade9", func := "lispprover/lispproverlaw3.OrdinalMultiplies", spec := "ordinalMultiplies", inPlace := ["internal/abi.NoEscape"], unfollowed := true, recurses := true, named := ["internal/strconv.uint64pow10", "math/bits.deBruijn32tab", "math/bits.deBruijn64tab", "strconv.ErrSyntax", "strconv.ErrRange"], loops := true, apart := false, laid := [("math/bits.deBruijn32tab", laid_math_bits_deBruijn32tab), ("math/bits.deBruijn64tab", laid_math_bits_deBruijn64tab), ("internal/strconv.uint64pow10", laid_internal_strconv_uint64pow10), ("strconv.ErrRange", laid_strconv_ErrRange), ("strconv.ErrSyntax", laid_strconv_ErrSyntax)], narrowed := true }
def OrdinalMultipliesUptoSaid : Prop := ordinalMultipliesUptoRow.holds Tryz.pinned (OpenSpec.upto ordinalMultipliesSpec)

/-- 'lispproverlaw3.OrdinalAlgebra', WHERE WHAT IT READS IS OF BULK AT MOST 1048576: true; the input reads as it did. -/
def ordinalAlgebraUptoRow : OpenClaim := { program := "ytgphkgmhcmffnaagreatdoor", sum := "1a39991fa438a374bc41e497abefc6af3d6e3002cd06ec8771562c9439ddade9", func := "lispprover/lispproverlaw3.OrdinalAlgebra", spec := "ordinalAlgebra", inPlace := ["internal/abi.NoEscape"], unfollowed := true, recurses := true, named := ["internal/strconv.uint64pow10", "math/bits.deBruijn32tab", "math/bits.deBruijn64tab", "strconv.ErrSyntax", "strconv.ErrRange"], loops := true, apart := false, laid := [("math/bits.deBruijn32tab", laid_math_bits_deBruijn32tab), ("math/bits.deBruijn64tab", laid_math_bits_deBruijn64tab), ("internal/strconv.uint64pow10", laid_internal_strconv_uint64pow10), ("strconv.ErrRange", laid_strconv_ErrRange), ("strconv.ErrSyntax", laid_strconv_ErrSyntax)], narrowed := true }
def OrdinalAlgebraUptoSaid : Prop := ordinalAlgebraUptoRow.holds Tryz.pinned (OpenSpec.upto ordinalAlgebraSpec)

/-- 'lispproverlaw3.OrdinalFormats', WHERE WHAT IT READS IS OF BULK AT MOST 1048576: true; the input reads as it did. -/
def ordinalFormatsUptoRow : OpenClaim := { program := "ytgphkgmhcmffnaagreatdoor", sum := "1a39991fa438a374bc41e497abefc6af3d6e3002cd06ec8771562c9439ddade9", func := "lispprover/lispproverlaw3.OrdinalFormats", spec := "ordinalFormats", inPlace := ["internal/abi.NoEscape"], unfollowed := true, recurses := true, named := ["internal/strconv.uint64pow10", "math/bits.deBruijn32tab", "math/bits.deBruijn64tab", "strconv.ErrSyntax", "strconv.ErrRange"], loops := true, apart := false, laid := [("math/bits.deBruijn32tab", laid_math_bits_deBruijn32tab), ("math/bits.deBruijn64tab", laid_math_bits_deBruijn64tab), ("internal/strconv.uint64pow10", laid_internal_strconv_uint64pow10), ("strconv.ErrRange", laid_strconv_ErrRange), ("strconv.ErrSyntax", laid_strconv_ErrSyntax)], narrowed := true }
def OrdinalFormatsUptoSaid : Prop := ordinalFormatsUptoRow.holds Tryz.pinned (OpenSpec.upto ordinalFormatsSpec)

/-- 'lispproverlaw3.OrdinalValid', WHERE WHAT IT READS IS OF BULK AT MOST 1048576: true; the input reads as it did. -/
def ordinalValidUptoRow : OpenClaim := { program := "ytgphkgmhcmffnaagreatdoor", sum := "1a39991fa438a374bc41e497abefc6af3d6e3002cd06ec8771562c9439ddade9", func := "lispprover/lispproverlaw3.OrdinalValid", spec := "ordinalValid", inPlace := ["internal/abi.NoEscape"], unfollowed := true, recurses := true, named := ["internal/strconv.uint64pow10", "math/bits.deBruijn32tab", "math/bits.deBruijn64tab", "strconv.ErrSyntax", "strconv.ErrRange"], loops := true, apart := false, laid := [("math/bits.deBruijn32tab", laid_math_bits_deBruijn32tab), ("math/bits.deBruijn64tab", laid_math_bits_deBruijn64tab), ("internal/strconv.uint64pow10", laid_internal_strconv_uint64pow10), ("strconv.ErrRange", laid_strconv_ErrRange), ("strconv.ErrSyntax", laid_strconv_ErrSyntax)], narrowed := true }
def OrdinalValidUptoSaid : Prop := ordinalValidUptoRow.holds Tryz.pinned (OpenSpec.upto ordinalValidSpec)

/-- 'lispproverlaw3.OrdinalParts', WHERE WHAT IT READS IS OF BULK AT MOST 1048576: true; the input reads as it did. -/
def ordinalPartsUptoRow : OpenClaim := { program := "ytgphkgmhcmffnaagreatdoor", sum := "1a39991fa438a374bc41e497abefc6af3d6e3002cd06ec8771562c9439ddade9", func := "lispprover/lispproverlaw3.OrdinalParts", spec := "ordinalParts", inPlace := ["internal/abi.NoEscape"], unfollowed := true, recurses := true, named := ["internal/strconv.uint64pow10", "math/bits.deBruijn32tab", "math/bits.deBruijn64tab", "strconv.ErrSyntax", "strconv.ErrRange"], loops := true, apart := false, laid := [("math/bits.deBruijn32tab", laid_math_bits_deBruijn32tab), ("math/bits.deBruijn64tab", laid_math_bits_deBruijn64tab), ("internal/strconv.uint64pow10", laid_internal_strconv_uint64pow10), ("strconv.ErrRange", laid_strconv_ErrRange), ("strconv.ErrSyntax", laid_strconv_ErrSyntax)], narrowed := true }
def OrdinalPartsUptoSaid : Prop := ordinalPartsUptoRow.holds Tryz.pinned (OpenSpec.upto ordinalPartsSpec)

end Rows
end Go.Proofs.YtgphkgmhcmffnaaGreatDoor
