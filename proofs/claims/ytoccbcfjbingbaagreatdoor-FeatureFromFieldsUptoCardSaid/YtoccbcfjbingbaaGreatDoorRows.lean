/-
  NARROWER THAN 'FOR EVERY INPUT', by the rows' own cells (each row's printed sentence says how): FeatureFromFields: laid · FeatureValidity: laid · FeatureRoundTrip: laid · FeatureRequiredFields: laid · FeatureKinds: laid · FeatureFields: laid.
  DERIVED. THE GIVEN ROWS OF THIS SEAT. 6 by the template 'for every input the law returns true; each argument reads behind the call as it read before'; 0 by the template 'total and deterministic' (their statements: YtoccbcfjbingbaaGreatDoorTotals.lean).
  GIVEN WITH THE SEED: the statements are not yours to turn. If you find one false, say at which input.
  Laid BY PROGRAM, IN A SANDBOX (cutbox-rows.mjs): the forced cells as the released guide's own fill.sh prints them over the translation 501395d26ed43c86… (all of the seat's roots in one cut). By AI agents, Wed Nov 11 2026. No macro, syntax, notation, axiom, sorry.
-/
import Derived.Test.YtoccbcfjbingbaaGreatDoorChecked
import GoSem.PinnedTables
import GoSem.Claim
import GoSem.ClaimJoined
import GoSem.ClaimMapViews
import Derived.JoinedTies
import Derived.KernelRfl
namespace Go.Proofs.YtoccbcfjbingbaaGreatDoor
/- THE CELL 'sum', in the pinned program and in every row, IS THE sha256 OF THE DUMP (.gsa) THAT YtoccbcfjbingbaaGreatDoorProg.lean LOADS. Nothing in Lean hashes anything: it is a label: what it is worth is what the hold of that sum in a sandbox is worth. -/
noncomputable def Tryz.pinned : Pinned := { name := "ytoccbcfjbingbaagreatdoor", sum := "501395d26ed43c86c41b52ba07f43b6a0734d882097312a961f48a4d7f1de46e", checked := Tryz.checked }
namespace Rows
def none {H : Type} : Left H := { results := [], args := [] }

/- WHAT THE LISTED PACKAGE-LEVEL VARIABLES READ AS WHEN THE CALL BEGINS. Each datum BY PROGRAM (the guide's laid-datum.mjs) off the statement by which the dump's own 'gosem.cut.vars' lays the variable. In a bare row this is a premise. The card (YtoccbcfjbingbaaGreatDoorCards.lean) ties it to the program's text. -/
def laid_math_bits_deBruijn32tab {H : Type} : DataW H := .agg [.lit (.int .u8 0), .lit (.int .u8 1), .lit (.int .u8 28), .lit (.int .u8 2), .lit (.int .u8 29), .lit (.int .u8 14), .lit (.int .u8 24), .lit (.int .u8 3), .lit (.int .u8 30), .lit (.int .u8 22), .lit (.int .u8 20), .lit (.int .u8 15), .lit (.int .u8 25), .lit (.int .u8 17), .lit (.int .u8 4), .lit (.int .u8 8), .lit (.int .u8 31), .lit (.int .u8 27), .lit (.int .u8 13), .lit (.int .u8 23), .lit (.int .u8 21), .lit (.int .u8 19), .lit (.int .u8 16), .lit (.int .u8 7), .lit (.int .u8 26), .lit (.int .u8 12), .lit (.int .u8 18), .lit (.int .u8 6), .lit (.int .u8 11), .lit (.int .u8 5), .lit (.int .u8 10), .lit (.int .u8 9)]
def laid_math_bits_deBruijn64tab {H : Type} : DataW H := .agg [.lit (.int .u8 0), .lit (.int .u8 1), .lit (.int .u8 56), .lit (.int .u8 2), .lit (.int .u8 57), .lit (.int .u8 49), .lit (.int .u8 28), .lit (.int .u8 3), .lit (.int .u8 61), .lit (.int .u8 58), .lit (.int .u8 42), .lit (.int .u8 50), .lit (.int .u8 38), .lit (.int .u8 29), .lit (.int .u8 17), .lit (.int .u8 4), .lit (.int .u8 62), .lit (.int .u8 47), .lit (.int .u8 59), .lit (.int .u8 36), .lit (.int .u8 45), .lit (.int .u8 43), .lit (.int .u8 51), .lit (.int .u8 22), .lit (.int .u8 53), .lit (.int .u8 39), .lit (.int .u8 33), .lit (.int .u8 30), .lit (.int .u8 24), .lit (.int .u8 18), .lit (.int .u8 12), .lit (.int .u8 5), .lit (.int .u8 63), .lit (.int .u8 55), .lit (.int .u8 48), .lit (.int .u8 27), .lit (.int .u8 60), .lit (.int .u8 41), .lit (.int .u8 37), .lit (.int .u8 16), .lit (.int .u8 46), .lit (.int .u8 35), .lit (.int .u8 44), .lit (.int .u8 21), .lit (.int .u8 52), .lit (.int .u8 32), .lit (.int .u8 23), .lit (.int .u8 11), .lit (.int .u8 54), .lit (.int .u8 26), .lit (.int .u8 40), .lit (.int .u8 15), .lit (.int .u8 34), .lit (.int .u8 20), .lit (.int .u8 31), .lit (.int .u8 10), .lit (.int .u8 25), .lit (.int .u8 14), .lit (.int .u8 19), .lit (.int .u8 9), .lit (.int .u8 13), .lit (.int .u8 8), .lit (.int .u8 7), .lit (.int .u8 6)]
def laid_internal_strconv_uint64pow10 {H : Type} : DataW H := .agg [.lit (.int .u64 1), .lit (.int .u64 10), .lit (.int .u64 100), .lit (.int .u64 1000), .lit (.int .u64 10000), .lit (.int .u64 100000), .lit (.int .u64 1000000), .lit (.int .u64 10000000), .lit (.int .u64 100000000), .lit (.int .u64 1000000000), .lit (.int .u64 10000000000), .lit (.int .u64 100000000000), .lit (.int .u64 1000000000000), .lit (.int .u64 10000000000000), .lit (.int .u64 100000000000000), .lit (.int .u64 1000000000000000), .lit (.int .u64 10000000000000000), .lit (.int .u64 100000000000000000), .lit (.int .u64 1000000000000000000), .lit (.int .u64 10000000000000000000)]
def laid_unicode_utf8_acceptRanges {H : Type} : DataW H := .agg [.agg [.lit (.int .u8 128), .lit (.int .u8 191)], .agg [.lit (.int .u8 160), .lit (.int .u8 191)], .agg [.lit (.int .u8 128), .lit (.int .u8 159)], .agg [.lit (.int .u8 144), .lit (.int .u8 191)], .agg [.lit (.int .u8 128), .lit (.int .u8 143)], .agg [.lit (.int .u8 0), .lit (.int .u8 0)], .agg [.lit (.int .u8 0), .lit (.int .u8 0)], .agg [.lit (.int .u8 0), .lit (.int .u8 0)], .agg [.lit (.int .u8 0), .lit (.int .u8 0)], .agg [.lit (.int .u8 0), .lit (.int .u8 0)], .agg [.lit (.int .u8 0), .lit (.int .u8 0)], .agg [.lit (.int .u8 0), .lit (.int .u8 0)], .agg [.lit (.int .u8 0), .lit (.int .u8 0)], .agg [.lit (.int .u8 0), .lit (.int .u8 0)], .agg [.lit (.int .u8 0), .lit (.int .u8 0)], .agg [.lit (.int .u8 0), .lit (.int .u8 0)]]
def laid_strconv_ErrRange {H : Type} : DataW H := .iface "*errors.errorString" (.ptr (.agg [.lit (.string [118, 97, 108, 117, 101, 32, 111, 117, 116, 32, 111, 102, 32, 114, 97, 110, 103, 101])]))
def laid_strconv_ErrSyntax {H : Type} : DataW H := .iface "*errors.errorString" (.ptr (.agg [.lit (.string [105, 110, 118, 97, 108, 105, 100, 32, 115, 121, 110, 116, 97, 120])]))
def laid_voussoir_feature_kinds {H : Type} : DataW H := .slice [.agg [.lit (.string [101, 120, 116, 114, 117, 100, 101]), .slice [.lit (.string [111, 110]), .lit (.string [115, 107, 101, 116, 99, 104]), .lit (.string [97, 109, 111, 117, 110, 116])] []], .agg [.lit (.string [99, 117, 116]), .slice [.lit (.string [111, 110]), .lit (.string [115, 107, 101, 116, 99, 104]), .lit (.string [97, 109, 111, 117, 110, 116])] []], .agg [.lit (.string [99, 104, 97, 109, 102, 101, 114]), .slice [.lit (.string [111, 110]), .lit (.string [97, 110, 100]), .lit (.string [97, 109, 111, 117, 110, 116])] []], .agg [.lit (.string [109, 105, 114, 114, 111, 114]), .slice [.lit (.string [111, 110])] []], .agg [.lit (.string [112, 97, 116, 116, 101, 114, 110]), .slice [.lit (.string [99, 111, 117, 110, 116]), .lit (.string [120]), .lit (.string [121]), .lit (.string [122])] []], .agg [.lit (.string [109, 111, 118, 101]), .slice [.lit (.string [120]), .lit (.string [121]), .lit (.string [122])] []], .agg [.lit (.string [116, 117, 114, 110]), .slice [.lit (.string [115, 107, 101, 116, 99, 104]), .lit (.string [99, 111, 117, 110, 116])] []], .agg [.lit (.string [108, 97, 98, 101, 108]), .slice [.lit (.string [111, 110]), .lit (.string [115, 107, 101, 116, 99, 104])] []]] []
/-- One of Go's own tables, pinned by name: the form's constant. -/
def laid_unicode_utf8_first : DataW Unit := Go.Pinned.utf8First

/-- 'voussoirlaw30.FeatureFromFields': WHATEVER THE INPUT: true; the input reads as it did. -/
def featureFromFieldsSpec : ChangeSpec := { name := "featureFromFields", fn := fun _ => fun
  | [d1, d2, d3] => { results := [.lit (.bool true)], args := [d1, d2, d3] }
  | _ => none }
def featureFromFieldsRow : OpenClaim := { program := "ytoccbcfjbingbaagreatdoor", sum := "501395d26ed43c86c41b52ba07f43b6a0734d882097312a961f48a4d7f1de46e", func := "voussoir/voussoirlaw30.FeatureFromFields", spec := "featureFromFields", inPlace := ["internal/bytealg.CountString", "internal/bytealg.IndexByteString", "internal/bytealg.IndexString", "internal/abi.NoEscape", "internal/bytealg.MakeNoZero"], unfollowed := true, recurses := true, named := ["voussoir/feature.kinds", "unicode/utf8.first", "unicode/utf8.acceptRanges", "internal/bytealg.MaxLen", "strconv.ErrSyntax", "strconv.ErrRange", "internal/strconv.uint64pow10", "math/bits.deBruijn32tab", "math/bits.deBruijn64tab"], apart := false, laid := [("math/bits.deBruijn32tab", laid_math_bits_deBruijn32tab), ("math/bits.deBruijn64tab", laid_math_bits_deBruijn64tab), ("internal/strconv.uint64pow10", laid_internal_strconv_uint64pow10), ("unicode/utf8.acceptRanges", laid_unicode_utf8_acceptRanges), ("strconv.ErrRange", laid_strconv_ErrRange), ("strconv.ErrSyntax", laid_strconv_ErrSyntax), ("voussoir/feature.kinds", laid_voussoir_feature_kinds), ("unicode/utf8.first", laid_unicode_utf8_first)] }
def FeatureFromFieldsSaid : Prop := featureFromFieldsRow.holds Tryz.pinned (OpenSpec.ofChange featureFromFieldsSpec)

/-- ITS FALSE NEIGHBOUR: 'it returns false'. Refute it at one input. -/
def featureFromFieldsWrong : ChangeSpec := { name := "featureFromFields", fn := fun _ => fun
  | [d1, d2, d3] => { results := [.lit (.bool false)], args := [d1, d2, d3] }
  | _ => none }
def FeatureFromFieldsWrongFalsely : Prop := featureFromFieldsRow.holds Tryz.pinned (OpenSpec.ofChange featureFromFieldsWrong)

/-- 'voussoirlaw30.FeatureValidity': WHATEVER THE INPUT: true; the input reads as it did. -/
def featureValiditySpec : ChangeSpec := { name := "featureValidity", fn := fun _ => fun
  | [d] => { results := [.lit (.bool true)], args := [d] }
  | _ => none }
def featureValidityRow : OpenClaim := { program := "ytoccbcfjbingbaagreatdoor", sum := "501395d26ed43c86c41b52ba07f43b6a0734d882097312a961f48a4d7f1de46e", func := "voussoir/voussoirlaw30.FeatureValidity", spec := "featureValidity", inPlace := ["internal/bytealg.CountString", "internal/bytealg.IndexByteString", "internal/bytealg.IndexString", "internal/abi.NoEscape", "internal/bytealg.MakeNoZero"], unfollowed := true, recurses := true, named := ["voussoir/feature.kinds", "unicode/utf8.first", "unicode/utf8.acceptRanges", "internal/bytealg.MaxLen", "strconv.ErrSyntax", "strconv.ErrRange", "internal/strconv.uint64pow10", "math/bits.deBruijn32tab", "math/bits.deBruijn64tab"], apart := false, laid := [("math/bits.deBruijn32tab", laid_math_bits_deBruijn32tab), ("math/bits.deBruijn64tab", laid_math_bits_deBruijn64tab), ("internal/strconv.uint64pow10", laid_internal_strconv_uint64pow10), ("unicode/utf8.acceptRanges", laid_unicode_utf8_acceptRanges), ("strconv.ErrRange", laid_strconv_ErrRange), ("strconv.ErrSyntax", laid_strconv_ErrSyntax), ("voussoir/feature.kinds", laid_voussoir_feature_kinds), ("unicode/utf8.first", laid_unicode_utf8_first)] }
def FeatureValiditySaid : Prop := featureValidityRow.holds Tryz.pinned (OpenSpec.ofChange featureValiditySpec)

/-- ITS FALSE NEIGHBOUR: 'it returns false'. Refute it at one input. -/
def featureValidityWrong : ChangeSpec := { name := "featureValidity", fn := fun _ => fun
  | [d] => { results := [.lit (.bool false)], args := [d] }
  | _ => none }
def FeatureValidityWrongFalsely : Prop := featureValidityRow.holds Tryz.pinned (OpenSpec.ofChange featureValidityWrong)

/-- 'voussoirlaw30.FeatureRoundTrip': WHATEVER THE INPUT: true; the input reads as it did. -/
def featureRoundTripSpec : ChangeSpec := { name := "featureRoundTrip", fn := fun _ => fun
  | [d] => { results := [.lit (.bool true)], args := [d] }
  | _ => none }
def featureRoundTripRow : OpenClaim := { program := "ytoccbcfjbingbaagreatdoor", sum := "501395d26ed43c86c41b52ba07f43b6a0734d882097312a961f48a4d7f1de46e", func := "voussoir/voussoirlaw30.FeatureRoundTrip", spec := "featureRoundTrip", inPlace := ["internal/bytealg.CountString", "internal/bytealg.IndexByteString", "internal/bytealg.IndexString", "internal/abi.NoEscape", "internal/bytealg.MakeNoZero"], unfollowed := true, recurses := true, named := ["voussoir/feature.kinds", "unicode/utf8.first", "unicode/utf8.acceptRanges", "internal/bytealg.MaxLen", "strconv.ErrSyntax", "strconv.ErrRange", "internal/strconv.uint64pow10", "math/bits.deBruijn32tab", "math/bits.deBruijn64tab"], apart := false, laid := [("math/bits.deBruijn32tab", laid_math_bits_deBruijn32tab), ("math/bits.deBruijn64tab", laid_math_bits_deBruijn64tab), ("internal/strconv.uint64pow10", laid_internal_strconv_uint64pow10), ("unicode/utf8.acceptRanges", laid_unicode_utf8_acceptRanges), ("strconv.ErrRange", laid_strconv_ErrRange), ("strconv.ErrSyntax", laid_strconv_ErrSyntax), ("voussoir/feature.kinds", laid_voussoir_feature_kinds), ("unicode/utf8.first", laid_unicode_utf8_first)] }
def FeatureRoundTripSaid : Prop := featureRoundTripRow.holds Tryz.pinned (OpenSpec.ofChange featureRoundTripSpec)

/-- ITS FALSE NEIGHBOUR: 'it returns false'. Refute it at one input. -/
def featureRoundTripWrong : ChangeSpec := { name := "featureRoundTrip", fn := fun _ => fun
  | [d] => { results := [.lit (.bool false)], args := [d] }
  | _ => none }
def FeatureRoundTripWrongFalsely : Prop := featureRoundTripRow.holds Tryz.pinned (OpenSpec.ofChange featureRoundTripWrong)

/-- 'voussoirlaw30.FeatureRequiredFields': WHATEVER THE INPUT: true; the input reads as it did. -/
def featureRequiredFieldsSpec : ChangeSpec := { name := "featureRequiredFields", fn := fun _ => fun
  | [d1, d2, d3] => { results := [.lit (.bool true)], args := [d1, d2, d3] }
  | _ => none }
def featureRequiredFieldsRow : OpenClaim := { program := "ytoccbcfjbingbaagreatdoor", sum := "501395d26ed43c86c41b52ba07f43b6a0734d882097312a961f48a4d7f1de46e", func := "voussoir/voussoirlaw30.FeatureRequiredFields", spec := "featureRequiredFields", inPlace := ["internal/bytealg.CountString", "internal/bytealg.IndexByteString", "internal/bytealg.IndexString", "internal/abi.NoEscape", "internal/bytealg.MakeNoZero"], unfollowed := true, recurses := true, named := ["voussoir/feature.kinds", "unicode/utf8.first", "unicode/utf8.acceptRanges", "internal/bytealg.MaxLen", "strconv.ErrSyntax", "strconv.ErrRange", "internal/strconv.uint64pow10", "math/bits.deBruijn32tab", "math/bits.deBruijn64tab"], apart := false, laid := [("math/bits.deBruijn32tab", laid_math_bits_deBruijn32tab), ("math/bits.deBruijn64tab", laid_math_bits_deBruijn64tab), ("internal/strconv.uint64pow10", laid_internal_strconv_uint64pow10), ("unicode/utf8.acceptRanges", laid_unicode_utf8_acceptRanges), ("strconv.ErrRange", laid_strconv_ErrRange), ("strconv.ErrSyntax", laid_strconv_ErrSyntax), ("voussoir/feature.kinds", laid_voussoir_feature_kinds), ("unicode/utf8.first", laid_unicode_utf8_first)] }
def FeatureRequiredFieldsSaid : Prop := featureRequiredFieldsRow.holds Tryz.pinned (OpenSpec.ofChange featureRequiredFieldsSpec)

/-- ITS FALSE NEIGHBOUR: 'it returns false'. Refute it at one input. -/
def featureRequiredFieldsWrong : ChangeSpec := { name := "featureRequiredFields", fn := fun _ => fun
  | [d1, d2, d3] => { results := [.lit (.bool false)], args := [d1, d2, d3] }
  | _ => none }
def FeatureRequiredFieldsWrongFalsely : Prop := featureRequiredFieldsRow.holds Tryz.pinned (OpenSpec.ofChange featureRequiredFieldsWrong)

/-- 'voussoirlaw30.FeatureKinds': WHATEVER THE INPUT: true; the input reads as it did. -/
def featureKindsSpec : ChangeSpec := { name := "featureKinds", fn := fun _ => fun
  | [d1, d2] => { results := [.lit (.bool true)], args := [d1, d2] }
  | _ => none }
def featureKindsRow : OpenClaim := { program := "ytoccbcfjbingbaagreatdoor", sum := "501395d26ed43c86c41b52ba07f43b6a0734d882097312a961f48a4d7f1de46e", func := "voussoir/voussoirlaw30.FeatureKinds", spec := "featureKinds", inPlace := ["internal/bytealg.CountString", "internal/bytealg.IndexByteString", "internal/bytealg.IndexString", "internal/abi.NoEscape", "internal/bytealg.MakeNoZero"], unfollowed := true, recurses := true, named := ["voussoir/feature.kinds", "unicode/utf8.first", "unicode/utf8.acceptRanges", "internal/bytealg.MaxLen", "strconv.ErrSyntax", "strconv.ErrRange", "internal/strconv.uint64pow10", "math/bits.deBruijn32tab", "math/bits.deBruijn64tab"], apart := false, laid := [("math/bits.deBruijn32tab", laid_math_bits_deBruijn32tab), ("math/bits.deBruijn64tab", laid_math_bits_deBruijn64tab), ("internal/strconv.uint64pow10", laid_internal_strconv_uint64pow10), ("unicode/utf8.acceptRanges", laid_unicode_utf8_acceptRanges), ("strconv.ErrRange", laid_strconv_ErrRange), ("strconv.ErrSyntax", laid_strconv_ErrSyntax), ("voussoir/feature.kinds", laid_voussoir_feature_kinds), ("unicode/utf8.first", laid_unicode_utf8_first)] }
def FeatureKindsSaid : Prop := featureKindsRow.holds Tryz.pinned (OpenSpec.ofChange featureKindsSpec)

/-- ITS FALSE NEIGHBOUR: 'it returns false'. Refute it at one input. -/
def featureKindsWrong : ChangeSpec := { name := "featureKinds", fn := fun _ => fun
  | [d1, d2] => { results := [.lit (.bool false)], args := [d1, d2] }
  | _ => none }
def FeatureKindsWrongFalsely : Prop := featureKindsRow.holds Tryz.pinned (OpenSpec.ofChange featureKindsWrong)

/-- 'voussoirlaw30.FeatureFields': WHATEVER THE INPUT: true; the input reads as it did. -/
def featureFieldsSpec : ChangeSpec := { name := "featureFields", fn := fun _ => fun
  | [d1, d2, d3] => { results := [.lit (.bool true)], args := [d1, d2, d3] }
  | _ => none }
def featureFieldsRow : OpenClaim := { program := "ytoccbcfjbingbaagreatdoor", sum := "501395d26ed43c86c41b52ba07f43b6a0734d882097312a961f48a4d7f1de46e", func := "voussoir/voussoirlaw30.FeatureFields", spec := "featureFields", inPlace := ["internal/bytealg.CountString", "internal/bytealg.IndexByteString", "internal/bytealg.IndexString", "internal/abi.NoEscape", "internal/bytealg.MakeNoZero"], unfollowed := true, recurses := true, named := ["voussoir/feature.kinds", "unicode/utf8.first", "unicode/utf8.acceptRanges", "internal/bytealg.MaxLen", "strconv.ErrSyntax", "strconv.ErrRange", "internal/strconv.uint64pow10", "math/bits.deBruijn32tab", "math/bits.deBruijn64tab"], apart := false, laid := [("math/bits.deBruijn32tab", laid_math_bits_deBruijn32tab), ("math/bits.deBruijn64tab", laid_math_bits_deBruijn64tab), ("internal/strconv.uint64pow10", laid_internal_strconv_uint64pow10), ("unicode/utf8.acceptRanges", laid_unicode_utf8_acceptRanges), ("strconv.ErrRange", laid_strconv_ErrRange), ("strconv.ErrSyntax", laid_strconv_ErrSyntax), ("voussoir/feature.kinds", laid_voussoir_feature_kinds), ("unicode/utf8.first", laid_unicode_utf8_first)] }
def FeatureFieldsSaid : Prop := featureFieldsRow.holds Tryz.pinned (OpenSpec.ofChange featureFieldsSpec)

/-- ITS FALSE NEIGHBOUR: 'it returns false'. Refute it at one input. -/
def featureFieldsWrong : ChangeSpec := { name := "featureFields", fn := fun _ => fun
  | [d1, d2, d3] => { results := [.lit (.bool false)], args := [d1, d2, d3] }
  | _ => none }
def FeatureFieldsWrongFalsely : Prop := featureFieldsRow.holds Tryz.pinned (OpenSpec.ofChange featureFieldsWrong)

/- THE SECOND FORM. 'bulk': how many values and letters a reading holds, each counted each time it is reached (what is shared counts as often as it is met; a slice's spare places count too). A statement '..UptoSaid' is the law's where the arguments, and the package variables that the reading takes, are together of bulk at most 1048576: NARROWER than '..Said'. Prove '..Said' where nothing that the law and all that it calls make is longer than what came in: it says more and counts as full. Else prove '..UptoSaid'. A law counts once. -/
mutual
def uptoBulk {H : Type} : DataW H → Nat
  | .lit (.string bytes) => bytes.length + 1
  | .lit _ => 1
  | .nil => 1
  | .ptr d => uptoBulk d + 1
  | .slice elems spare => uptoBulkAll elems + uptoBulkAll spare + 1
  | .agg parts => uptoBulkAll parts + 1
  | .iface _ d => uptoBulk d + 1
  | .map entries => uptoBulkEntries entries + 1
  | .held _ => 1
def uptoBulkAll {H : Type} : List (DataW H) → Nat
  | [] => 0
  | d :: r => uptoBulk d + uptoBulkAll r
def uptoBulkEntries {H : Type} : List (Lit × DataW H) → Nat
  | [] => 0
  | x :: r => uptoBulkEntry x + uptoBulkEntries r
def uptoBulkEntry {H : Type} : Lit × DataW H → Nat
  | (.string bytes, d) => bytes.length + uptoBulk d + 1
  | (_, d) => uptoBulk d + 1
 end
def uptoSmall : (H : Type) → List (DataW H) → Bool := fun _ ds => decide (uptoBulkAll ds ≤ 1048576)
def OpenSpec.upto (s : _root_.Go.ChangeSpec) : _root_.Go.OpenSpec := { _root_.Go.OpenSpec.ofChange s with cond := some uptoSmall }

/-- 'voussoirlaw30.FeatureFromFields', WHERE WHAT IT READS IS OF BULK AT MOST 1048576: true; the input reads as it did. -/
def featureFromFieldsUptoRow : OpenClaim := { program := "ytoccbcfjbingbaagreatdoor", sum := "501395d26ed43c86c41b52ba07f43b6a0734d882097312a961f48a4d7f1de46e", func := "voussoir/voussoirlaw30.FeatureFromFields", spec := "featureFromFields", inPlace := ["internal/bytealg.CountString", "internal/bytealg.IndexByteString", "internal/bytealg.IndexString", "internal/abi.NoEscape", "internal/bytealg.MakeNoZero"], unfollowed := true, recurses := true, named := ["voussoir/feature.kinds", "unicode/utf8.first", "unicode/utf8.acceptRanges", "internal/bytealg.MaxLen", "strconv.ErrSyntax", "strconv.ErrRange", "internal/strconv.uint64pow10", "math/bits.deBruijn32tab", "math/bits.deBruijn64tab"], apart := false, laid := [("math/bits.deBruijn32tab", laid_math_bits_deBruijn32tab), ("math/bits.deBruijn64tab", laid_math_bits_deBruijn64tab), ("internal/strconv.uint64pow10", laid_internal_strconv_uint64pow10), ("unicode/utf8.acceptRanges", laid_unicode_utf8_acceptRanges), ("strconv.ErrRange", laid_strconv_ErrRange), ("strconv.ErrSyntax", laid_strconv_ErrSyntax), ("voussoir/feature.kinds", laid_voussoir_feature_kinds), ("unicode/utf8.first", laid_unicode_utf8_first)], narrowed := true }
def FeatureFromFieldsUptoSaid : Prop := featureFromFieldsUptoRow.holds Tryz.pinned (OpenSpec.upto featureFromFieldsSpec)

/-- 'voussoirlaw30.FeatureValidity', WHERE WHAT IT READS IS OF BULK AT MOST 1048576: true; the input reads as it did. -/
def featureValidityUptoRow : OpenClaim := { program := "ytoccbcfjbingbaagreatdoor", sum := "501395d26ed43c86c41b52ba07f43b6a0734d882097312a961f48a4d7f1de46e", func := "voussoir/voussoirlaw30.FeatureValidity", spec := "featureValidity", inPlace := ["internal/bytealg.CountString", "internal/bytealg.IndexByteString", "internal/bytealg.IndexString", "internal/abi.NoEscape", "internal/bytealg.MakeNoZero"], unfollowed := true, recurses := true, named := ["voussoir/feature.kinds", "unicode/utf8.first", "unicode/utf8.acceptRanges", "internal/bytealg.MaxLen", "strconv.ErrSyntax", "strconv.ErrRange", "internal/strconv.uint64pow10", "math/bits.deBruijn32tab", "math/bits.deBruijn64tab"], apart := false, laid := [("math/bits.deBruijn32tab", laid_math_bits_deBruijn32tab), ("math/bits.deBruijn64tab", laid_math_bits_deBruijn64tab), ("internal/strconv.uint64pow10", laid_internal_strconv_uint64pow10), ("unicode/utf8.acceptRanges", laid_unicode_utf8_acceptRanges), ("strconv.ErrRange", laid_strconv_ErrRange), ("strconv.ErrSyntax", laid_strconv_ErrSyntax), ("voussoir/feature.kinds", laid_voussoir_feature_kinds), ("unicode/utf8.first", laid_unicode_utf8_first)], narrowed := true }
def FeatureValidityUptoSaid : Prop := featureValidityUptoRow.holds Tryz.pinned (OpenSpec.upto featureValiditySpec)

/-- 'voussoirlaw30.FeatureRoundTrip', WHERE WHAT IT READS IS OF BULK AT MOST 1048576: true; the input reads as it did. -/
def featureRoundTripUptoRow : OpenClaim := { program := "ytoccbcfjbingbaagreatdoor", sum := "501395d26ed43c86c41b52ba07f43b6a0734d882097312a961f48a4d7f1de46e", func := "voussoir/voussoirlaw30.FeatureRoundTrip", spec := "featureRoundTrip", inPlace := ["internal/bytealg.CountString", "internal/bytealg.IndexByteString", "internal/bytealg.IndexString", "internal/abi.NoEscape", "internal/bytealg.MakeNoZero"], unfollowed := true, recurses := true, named := ["voussoir/feature.kinds", "unicode/utf8.first", "unicode/utf8.acceptRanges", "internal/bytealg.MaxLen", "strconv.ErrSyntax", "strconv.ErrRange", "internal/strconv.uint64pow10", "math/bits.deBruijn32tab", "math/bits.deBruijn64tab"], apart := false, laid := [("math/bits.deBruijn32tab", laid_math_bits_deBruijn32tab), ("math/bits.deBruijn64tab", laid_math_bits_deBruijn64tab), ("internal/strconv.uint64pow10", laid_internal_strconv_uint64pow10), ("unicode/utf8.acceptRanges", laid_unicode_utf8_acceptRanges), ("strconv.ErrRange", laid_strconv_ErrRange), ("strconv.ErrSyntax", laid_strconv_ErrSyntax), ("voussoir/feature.kinds", laid_voussoir_feature_kinds), ("unicode/utf8.first", laid_unicode_utf8_first)], narrowed := true }
def FeatureRoundTripUptoSaid : Prop := featureRoundTripUptoRow.holds Tryz.pinned (OpenSpec.upto featureRoundTripSpec)

/-- 'voussoirlaw30.FeatureRequiredFields', WHERE WHAT IT READS IS OF BULK AT MOST 1048576: true; the input reads as it did. -/
def featureRequiredFieldsUptoRow : OpenClaim := { program := "ytoccbcfjbingbaagreatdoor", sum := "501395d26ed43c86c41b52ba07f43b6a0734d882097312a961f48a4d7f1de46e", func := "voussoir/voussoirlaw30.FeatureRequiredFields", spec := "featureRequiredFields", inPlace := ["internal/bytealg.CountString", "internal/bytealg.IndexByteString", "internal/bytealg.IndexString", "internal/abi.NoEscape", "internal/bytealg.MakeNoZero"], unfollowed := true, recurses := true, named := ["voussoir/feature.kinds", "unicode/utf8.first", "unicode/utf8.acceptRanges", "internal/bytealg.MaxLen", "strconv.ErrSyntax", "strconv.ErrRange", "internal/strconv.uint64pow10", "math/bits.deBruijn32tab", "math/bits.deBruijn64tab"], apart := false, laid := [("math/bits.deBruijn32tab", laid_math_bits_deBruijn32tab), ("math/bits.deBruijn64tab", laid_math_bits_deBruijn64tab), ("internal/strconv.uint64pow10", laid_internal_strconv_uint64pow10), ("unicode/utf8.acceptRanges", laid_unicode_utf8_acceptRanges), ("strconv.ErrRange", laid_strconv_ErrRange), ("strconv.ErrSyntax", laid_strconv_ErrSyntax), ("voussoir/feature.kinds", laid_voussoir_feature_kinds), ("unicode/utf8.first", laid_unicode_utf8_first)], narrowed := true }
def FeatureRequiredFieldsUptoSaid : Prop := featureRequiredFieldsUptoRow.holds Tryz.pinned (OpenSpec.upto featureRequiredFieldsSpec)

/-- 'voussoirlaw30.FeatureKinds', WHERE WHAT IT READS IS OF BULK AT MOST 1048576: true; the input reads as it did. -/
def featureKindsUptoRow : OpenClaim := { program := "ytoccbcfjbingbaagreatdoor", sum := "501395d26ed43c86c41b52ba07f43b6a0734d882097312a961f48a4d7f1de46e", func := "voussoir/voussoirlaw30.FeatureKinds", spec := "featureKinds", inPlace := ["internal/bytealg.CountString", "internal/bytealg.IndexByteString", "internal/bytealg.IndexString", "internal/abi.NoEscape", "internal/bytealg.MakeNoZero"], unfollowed := true, recurses := true, named := ["voussoir/feature.kinds", "unicode/utf8.first", "unicode/utf8.acceptRanges", "internal/bytealg.MaxLen", "strconv.ErrSyntax", "strconv.ErrRange", "internal/strconv.uint64pow10", "math/bits.deBruijn32tab", "math/bits.deBruijn64tab"], apart := false, laid := [("math/bits.deBruijn32tab", laid_math_bits_deBruijn32tab), ("math/bits.deBruijn64tab", laid_math_bits_deBruijn64tab), ("internal/strconv.uint64pow10", laid_internal_strconv_uint64pow10), ("unicode/utf8.acceptRanges", laid_unicode_utf8_acceptRanges), ("strconv.ErrRange", laid_strconv_ErrRange), ("strconv.ErrSyntax", laid_strconv_ErrSyntax), ("voussoir/feature.kinds", laid_voussoir_feature_kinds), ("unicode/utf8.first", laid_unicode_utf8_first)], narrowed := true }
def FeatureKindsUptoSaid : Prop := featureKindsUptoRow.holds Tryz.pinned (OpenSpec.upto featureKindsSpec)

/-- 'voussoirlaw30.FeatureFields', WHERE WHAT IT READS IS OF BULK AT MOST 1048576: true; the input reads as it did. -/
def featureFieldsUptoRow : OpenClaim := { program := "ytoccbcfjbingbaagreatdoor", sum := "501395d26ed43c86c41b52ba07f43b6a0734d882097312a961f48a4d7f1de46e", func := "voussoir/voussoirlaw30.FeatureFields", spec := "featureFields", inPlace := ["internal/bytealg.CountString", "internal/bytealg.IndexByteString", "internal/bytealg.IndexString", "internal/abi.NoEscape", "internal/bytealg.MakeNoZero"], unfollowed := true, recurses := true, named := ["voussoir/feature.kinds", "unicode/utf8.first", "unicode/utf8.acceptRanges", "internal/bytealg.MaxLen", "strconv.ErrSyntax", "strconv.ErrRange", "internal/strconv.uint64pow10", "math/bits.deBruijn32tab", "math/bits.deBruijn64tab"], apart := false, laid := [("math/bits.deBruijn32tab", laid_math_bits_deBruijn32tab), ("math/bits.deBruijn64tab", laid_math_bits_deBruijn64tab), ("internal/strconv.uint64pow10", laid_internal_strconv_uint64pow10), ("unicode/utf8.acceptRanges", laid_unicode_utf8_acceptRanges), ("strconv.ErrRange", laid_strconv_ErrRange), ("strconv.ErrSyntax", laid_strconv_ErrSyntax), ("voussoir/feature.kinds", laid_voussoir_feature_kinds), ("unicode/utf8.first", laid_unicode_utf8_first)], narrowed := true }
def FeatureFieldsUptoSaid : Prop := featureFieldsUptoRow.holds Tryz.pinned (OpenSpec.upto featureFieldsSpec)

end Rows
end Go.Proofs.YtoccbcfjbingbaaGreatDoor
