/-
  NARROWER THAN 'FOR EVERY INPUT', by the rows' own cells (each row's printed sentence says how): FnExactYearToEnglish: laid · FnExactIntervalToEnglish: laid · FnExactRecordToEnglish: laid · FnExactEnglishToYear: laid · FnExactEvidenceToEnglish: laid · FnExactEnglishToInterval: laid.
  DERIVED. THE GIVEN ROWS OF THIS SEAT. 6 by the template 'for every input the law returns true; each argument reads behind the call as it read before'; 0 by the template 'total and deterministic' (their statements: YtfkaiiconllbhaaDoorTotals.lean).
  GIVEN WITH THE SEED: the statements are not yours to turn. If you find one false, say at which input.
  Laid BY PROGRAM, IN A SANDBOX (cutbox-rows.mjs): the forced cells as the released guide's own fill.sh prints them over the translation b9ada887766bbee8… (all of the seat's roots in one cut). By AI agents, Wed Nov 11 2026. No macro, syntax, notation, axiom, sorry.
-/
import Derived.Test.YtfkaiiconllbhaaDoorChecked
import GoSem.Claim
import GoSem.ClaimJoined
import GoSem.ClaimMapViews
import Derived.JoinedTies
import Derived.KernelRfl
namespace Go.Proofs.YtfkaiiconllbhaaDoor
/- THE CELL 'sum', in the pinned program and in every row, IS THE sha256 OF THE DUMP (.gsa) THAT YtfkaiiconllbhaaDoorProg.lean LOADS. Nothing in Lean hashes anything: it is a label: what it is worth is what the hold of that sum in a sandbox is worth. -/
noncomputable def Tryd.pinned : Pinned := { name := "ytfkaiiconllbhaadoor", sum := "b9ada887766bbee8dcae0a74efe72c22bb91d159a2be58f2e444bf4a5263efbc", checked := Tryd.checked }
namespace Rows
def none {H : Type} : Left H := { results := [], args := [] }

/- WHAT THE LISTED PACKAGE-LEVEL VARIABLES READ AS WHEN THE CALL BEGINS. Each datum BY PROGRAM (the guide's laid-datum.mjs) off the statement by which the dump's own 'gosem.cut.vars' lays the variable. In a bare row this is a premise. The card (YtfkaiiconllbhaaDoorCards.lean) ties it to the program's text. -/
def laid_math_bits_deBruijn32tab {H : Type} : DataW H := .agg [.lit (.int .u8 0), .lit (.int .u8 1), .lit (.int .u8 28), .lit (.int .u8 2), .lit (.int .u8 29), .lit (.int .u8 14), .lit (.int .u8 24), .lit (.int .u8 3), .lit (.int .u8 30), .lit (.int .u8 22), .lit (.int .u8 20), .lit (.int .u8 15), .lit (.int .u8 25), .lit (.int .u8 17), .lit (.int .u8 4), .lit (.int .u8 8), .lit (.int .u8 31), .lit (.int .u8 27), .lit (.int .u8 13), .lit (.int .u8 23), .lit (.int .u8 21), .lit (.int .u8 19), .lit (.int .u8 16), .lit (.int .u8 7), .lit (.int .u8 26), .lit (.int .u8 12), .lit (.int .u8 18), .lit (.int .u8 6), .lit (.int .u8 11), .lit (.int .u8 5), .lit (.int .u8 10), .lit (.int .u8 9)]
def laid_math_bits_deBruijn64tab {H : Type} : DataW H := .agg [.lit (.int .u8 0), .lit (.int .u8 1), .lit (.int .u8 56), .lit (.int .u8 2), .lit (.int .u8 57), .lit (.int .u8 49), .lit (.int .u8 28), .lit (.int .u8 3), .lit (.int .u8 61), .lit (.int .u8 58), .lit (.int .u8 42), .lit (.int .u8 50), .lit (.int .u8 38), .lit (.int .u8 29), .lit (.int .u8 17), .lit (.int .u8 4), .lit (.int .u8 62), .lit (.int .u8 47), .lit (.int .u8 59), .lit (.int .u8 36), .lit (.int .u8 45), .lit (.int .u8 43), .lit (.int .u8 51), .lit (.int .u8 22), .lit (.int .u8 53), .lit (.int .u8 39), .lit (.int .u8 33), .lit (.int .u8 30), .lit (.int .u8 24), .lit (.int .u8 18), .lit (.int .u8 12), .lit (.int .u8 5), .lit (.int .u8 63), .lit (.int .u8 55), .lit (.int .u8 48), .lit (.int .u8 27), .lit (.int .u8 60), .lit (.int .u8 41), .lit (.int .u8 37), .lit (.int .u8 16), .lit (.int .u8 46), .lit (.int .u8 35), .lit (.int .u8 44), .lit (.int .u8 21), .lit (.int .u8 52), .lit (.int .u8 32), .lit (.int .u8 23), .lit (.int .u8 11), .lit (.int .u8 54), .lit (.int .u8 26), .lit (.int .u8 40), .lit (.int .u8 15), .lit (.int .u8 34), .lit (.int .u8 20), .lit (.int .u8 31), .lit (.int .u8 10), .lit (.int .u8 25), .lit (.int .u8 14), .lit (.int .u8 19), .lit (.int .u8 9), .lit (.int .u8 13), .lit (.int .u8 8), .lit (.int .u8 7), .lit (.int .u8 6)]
def laid_internal_strconv_uint64pow10 {H : Type} : DataW H := .agg [.lit (.int .u64 1), .lit (.int .u64 10), .lit (.int .u64 100), .lit (.int .u64 1000), .lit (.int .u64 10000), .lit (.int .u64 100000), .lit (.int .u64 1000000), .lit (.int .u64 10000000), .lit (.int .u64 100000000), .lit (.int .u64 1000000000), .lit (.int .u64 10000000000), .lit (.int .u64 100000000000), .lit (.int .u64 1000000000000), .lit (.int .u64 10000000000000), .lit (.int .u64 100000000000000), .lit (.int .u64 1000000000000000), .lit (.int .u64 10000000000000000), .lit (.int .u64 100000000000000000), .lit (.int .u64 1000000000000000000), .lit (.int .u64 10000000000000000000)]
def laid_strconv_ErrRange {H : Type} : DataW H := .iface "*errors.errorString" (.ptr (.agg [.lit (.string [118, 97, 108, 117, 101, 32, 111, 117, 116, 32, 111, 102, 32, 114, 97, 110, 103, 101])]))
def laid_strconv_ErrSyntax {H : Type} : DataW H := .iface "*errors.errorString" (.ptr (.agg [.lit (.string [105, 110, 118, 97, 108, 105, 100, 32, 115, 121, 110, 116, 97, 120])]))

/-- 'laws.FnExactYearToEnglish': WHATEVER THE INPUT: true; the input reads as it did. -/
def fnExactYearToEnglishSpec : ChangeSpec := { name := "fnExactYearToEnglish", fn := fun _ => fun
  | [d] => { results := [.lit (.bool true)], args := [d] }
  | _ => none }
def fnExactYearToEnglishRow : OpenClaim := { program := "ytfkaiiconllbhaadoor", sum := "b9ada887766bbee8dcae0a74efe72c22bb91d159a2be58f2e444bf4a5263efbc", func := "loop.example/g00876/laws.FnExactYearToEnglish", spec := "fnExactYearToEnglish", recurses := true, named := ["internal/strconv.uint64pow10", "math/bits.deBruijn32tab", "math/bits.deBruijn64tab"], apart := false, laid := [("math/bits.deBruijn32tab", laid_math_bits_deBruijn32tab), ("math/bits.deBruijn64tab", laid_math_bits_deBruijn64tab), ("internal/strconv.uint64pow10", laid_internal_strconv_uint64pow10)] }
def FnExactYearToEnglishSaid : Prop := fnExactYearToEnglishRow.holds Tryd.pinned (OpenSpec.ofChange fnExactYearToEnglishSpec)

/-- ITS FALSE NEIGHBOUR: 'it returns false'. Refute it at one input. -/
def fnExactYearToEnglishWrong : ChangeSpec := { name := "fnExactYearToEnglish", fn := fun _ => fun
  | [d] => { results := [.lit (.bool false)], args := [d] }
  | _ => none }
def FnExactYearToEnglishWrongFalsely : Prop := fnExactYearToEnglishRow.holds Tryd.pinned (OpenSpec.ofChange fnExactYearToEnglishWrong)

/-- 'laws.FnExactIntervalToEnglish': WHATEVER THE INPUT: true; the input reads as it did. -/
def fnExactIntervalToEnglishSpec : ChangeSpec := { name := "fnExactIntervalToEnglish", fn := fun _ => fun
  | [d] => { results := [.lit (.bool true)], args := [d] }
  | _ => none }
def fnExactIntervalToEnglishRow : OpenClaim := { program := "ytfkaiiconllbhaadoor", sum := "b9ada887766bbee8dcae0a74efe72c22bb91d159a2be58f2e444bf4a5263efbc", func := "loop.example/g00876/laws.FnExactIntervalToEnglish", spec := "fnExactIntervalToEnglish", recurses := true, named := ["internal/strconv.uint64pow10", "math/bits.deBruijn32tab", "math/bits.deBruijn64tab"], apart := false, laid := [("math/bits.deBruijn32tab", laid_math_bits_deBruijn32tab), ("math/bits.deBruijn64tab", laid_math_bits_deBruijn64tab), ("internal/strconv.uint64pow10", laid_internal_strconv_uint64pow10)] }
def FnExactIntervalToEnglishSaid : Prop := fnExactIntervalToEnglishRow.holds Tryd.pinned (OpenSpec.ofChange fnExactIntervalToEnglishSpec)

/-- ITS FALSE NEIGHBOUR: 'it returns false'. Refute it at one input. -/
def fnExactIntervalToEnglishWrong : ChangeSpec := { name := "fnExactIntervalToEnglish", fn := fun _ => fun
  | [d] => { results := [.lit (.bool false)], args := [d] }
  | _ => none }
def FnExactIntervalToEnglishWrongFalsely : Prop := fnExactIntervalToEnglishRow.holds Tryd.pinned (OpenSpec.ofChange fnExactIntervalToEnglishWrong)

/-- 'laws.FnExactRecordToEnglish': WHATEVER THE INPUT: true; the input reads as it did. -/
def fnExactRecordToEnglishSpec : ChangeSpec := { name := "fnExactRecordToEnglish", fn := fun _ => fun
  | [d] => { results := [.lit (.bool true)], args := [d] }
  | _ => none }
def fnExactRecordToEnglishRow : OpenClaim := { program := "ytfkaiiconllbhaadoor", sum := "b9ada887766bbee8dcae0a74efe72c22bb91d159a2be58f2e444bf4a5263efbc", func := "loop.example/g00876/laws.FnExactRecordToEnglish", spec := "fnExactRecordToEnglish", unfollowed := true, recurses := true, named := ["internal/strconv.uint64pow10", "math/bits.deBruijn32tab", "math/bits.deBruijn64tab"], apart := false, laid := [("math/bits.deBruijn32tab", laid_math_bits_deBruijn32tab), ("math/bits.deBruijn64tab", laid_math_bits_deBruijn64tab), ("internal/strconv.uint64pow10", laid_internal_strconv_uint64pow10)] }
def FnExactRecordToEnglishSaid : Prop := fnExactRecordToEnglishRow.holds Tryd.pinned (OpenSpec.ofChange fnExactRecordToEnglishSpec)

/-- ITS FALSE NEIGHBOUR: 'it returns false'. Refute it at one input. -/
def fnExactRecordToEnglishWrong : ChangeSpec := { name := "fnExactRecordToEnglish", fn := fun _ => fun
  | [d] => { results := [.lit (.bool false)], args := [d] }
  | _ => none }
def FnExactRecordToEnglishWrongFalsely : Prop := fnExactRecordToEnglishRow.holds Tryd.pinned (OpenSpec.ofChange fnExactRecordToEnglishWrong)

/-- 'laws.FnExactEnglishToYear': WHATEVER THE INPUT: true; the input reads as it did. -/
def fnExactEnglishToYearSpec : ChangeSpec := { name := "fnExactEnglishToYear", fn := fun _ => fun
  | [d] => { results := [.lit (.bool true)], args := [d] }
  | _ => none }
def fnExactEnglishToYearRow : OpenClaim := { program := "ytfkaiiconllbhaadoor", sum := "b9ada887766bbee8dcae0a74efe72c22bb91d159a2be58f2e444bf4a5263efbc", func := "loop.example/g00876/laws.FnExactEnglishToYear", spec := "fnExactEnglishToYear", recurses := true, named := ["strconv.ErrSyntax", "strconv.ErrRange", "internal/strconv.uint64pow10", "math/bits.deBruijn32tab", "math/bits.deBruijn64tab"], apart := false, laid := [("math/bits.deBruijn32tab", laid_math_bits_deBruijn32tab), ("math/bits.deBruijn64tab", laid_math_bits_deBruijn64tab), ("internal/strconv.uint64pow10", laid_internal_strconv_uint64pow10), ("strconv.ErrRange", laid_strconv_ErrRange), ("strconv.ErrSyntax", laid_strconv_ErrSyntax)] }
def FnExactEnglishToYearSaid : Prop := fnExactEnglishToYearRow.holds Tryd.pinned (OpenSpec.ofChange fnExactEnglishToYearSpec)

/-- ITS FALSE NEIGHBOUR: 'it returns false'. Refute it at one input. -/
def fnExactEnglishToYearWrong : ChangeSpec := { name := "fnExactEnglishToYear", fn := fun _ => fun
  | [d] => { results := [.lit (.bool false)], args := [d] }
  | _ => none }
def FnExactEnglishToYearWrongFalsely : Prop := fnExactEnglishToYearRow.holds Tryd.pinned (OpenSpec.ofChange fnExactEnglishToYearWrong)

/-- 'laws.FnExactEvidenceToEnglish': WHATEVER THE INPUT: true; the input reads as it did. -/
def fnExactEvidenceToEnglishSpec : ChangeSpec := { name := "fnExactEvidenceToEnglish", fn := fun _ => fun
  | [d1, d2] => { results := [.lit (.bool true)], args := [d1, d2] }
  | _ => none }
def fnExactEvidenceToEnglishRow : OpenClaim := { program := "ytfkaiiconllbhaadoor", sum := "b9ada887766bbee8dcae0a74efe72c22bb91d159a2be58f2e444bf4a5263efbc", func := "loop.example/g00876/laws.FnExactEvidenceToEnglish", spec := "fnExactEvidenceToEnglish", unfollowed := true, recurses := true, named := ["internal/strconv.uint64pow10", "math/bits.deBruijn32tab", "math/bits.deBruijn64tab"], apart := false, laid := [("math/bits.deBruijn32tab", laid_math_bits_deBruijn32tab), ("math/bits.deBruijn64tab", laid_math_bits_deBruijn64tab), ("internal/strconv.uint64pow10", laid_internal_strconv_uint64pow10)] }
def FnExactEvidenceToEnglishSaid : Prop := fnExactEvidenceToEnglishRow.holds Tryd.pinned (OpenSpec.ofChange fnExactEvidenceToEnglishSpec)

/-- ITS FALSE NEIGHBOUR: 'it returns false'. Refute it at one input. -/
def fnExactEvidenceToEnglishWrong : ChangeSpec := { name := "fnExactEvidenceToEnglish", fn := fun _ => fun
  | [d1, d2] => { results := [.lit (.bool false)], args := [d1, d2] }
  | _ => none }
def FnExactEvidenceToEnglishWrongFalsely : Prop := fnExactEvidenceToEnglishRow.holds Tryd.pinned (OpenSpec.ofChange fnExactEvidenceToEnglishWrong)

/-- 'laws.FnExactEnglishToInterval': WHATEVER THE INPUT: true; the input reads as it did. -/
def fnExactEnglishToIntervalSpec : ChangeSpec := { name := "fnExactEnglishToInterval", fn := fun _ => fun
  | [d] => { results := [.lit (.bool true)], args := [d] }
  | _ => none }
def fnExactEnglishToIntervalRow : OpenClaim := { program := "ytfkaiiconllbhaadoor", sum := "b9ada887766bbee8dcae0a74efe72c22bb91d159a2be58f2e444bf4a5263efbc", func := "loop.example/g00876/laws.FnExactEnglishToInterval", spec := "fnExactEnglishToInterval", inPlace := ["internal/bytealg.IndexByteString", "internal/bytealg.IndexString"], recurses := true, named := ["strconv.ErrSyntax", "strconv.ErrRange", "internal/strconv.uint64pow10", "math/bits.deBruijn32tab", "math/bits.deBruijn64tab", "internal/bytealg.MaxLen"], apart := false, laid := [("math/bits.deBruijn32tab", laid_math_bits_deBruijn32tab), ("math/bits.deBruijn64tab", laid_math_bits_deBruijn64tab), ("internal/strconv.uint64pow10", laid_internal_strconv_uint64pow10), ("strconv.ErrRange", laid_strconv_ErrRange), ("strconv.ErrSyntax", laid_strconv_ErrSyntax)] }
def FnExactEnglishToIntervalSaid : Prop := fnExactEnglishToIntervalRow.holds Tryd.pinned (OpenSpec.ofChange fnExactEnglishToIntervalSpec)

/-- ITS FALSE NEIGHBOUR: 'it returns false'. Refute it at one input. -/
def fnExactEnglishToIntervalWrong : ChangeSpec := { name := "fnExactEnglishToInterval", fn := fun _ => fun
  | [d] => { results := [.lit (.bool false)], args := [d] }
  | _ => none }
def FnExactEnglishToIntervalWrongFalsely : Prop := fnExactEnglishToIntervalRow.holds Tryd.pinned (OpenSpec.ofChange fnExactEnglishToIntervalWrong)

/- THE SECOND FORM. 'bulk': how many values and letters a reading holds, each counted each time it is reached (what is shared counts as often as it is met; a slice's spare places count too). A statement '..UptoSaid' is the law's where the arguments, and the package variables that the reading takes, are together of bulk at most 1048576: NARROWER than '..Said'. Prove '..Said' where nothing that the law and all that it calls make is longer than what came in: it says more and counts as full. Else prove '..UptoSaid'. A law counts once. -/
mutual
def uptoBulk {H : Type} : DataW H → Nat
  | .lit (.string bytes) => bytes.length + 1
  | .lit _ => 1
  | .nil => 1
  | .ptr d => uptoBulk d + 1
  | .slice elems spare => uptoBulkAll elems + uptoBulkAll spare + 1
  | .agg parts => uptoBulkAll parts + 1
  | .iface _ d => uptoBulk d + 1
  | .map entries => uptoBulkEntries entries + 1
  | .held _ => 1
def uptoBulkAll {H : Type} : List (DataW H) → Nat
  | [] => 0
  | d :: r => uptoBulk d + uptoBulkAll r
def uptoBulkEntries {H : Type} : List (Lit × DataW H) → Nat
  | [] => 0
  | x :: r => uptoBulkEntry x + uptoBulkEntries r
def uptoBulkEntry {H : Type} : Lit × DataW H → Nat
  | (.string bytes, d) => bytes.length + uptoBulk d + 1
  | (_, d) => uptoBulk d + 1
 end
def uptoSmall : (H : Type) → List (DataW H) → Bool := fun _ ds => decide (uptoBulkAll ds ≤ 1048576)
def OpenSpec.upto (s : _root_.Go.ChangeSpec) : _root_.Go.OpenSpec := { _root_.Go.OpenSpec.ofChange s with cond := some uptoSmall }

/-- 'laws.FnExactYearToEnglish', WHERE WHAT IT READS IS OF BULK AT MOST 1048576: true; the input reads as it did. -/
def fnExactYearToEnglishUptoRow : OpenClaim := { program := "ytfkaiiconllbhaadoor", sum := "b9ada887766bbee8dcae0a74efe72c22bb91d159a2be58f2e444bf4a5263efbc", func := "loop.example/g00876/laws.FnExactYearToEnglish", spec := "fnExactYearToEnglish", recurses := true, named := ["internal/strconv.uint64pow10", "math/bits.deBruijn32tab", "math/bits.deBruijn64tab"], apart := false, laid := [("math/bits.deBruijn32tab", laid_math_bits_deBruijn32tab), ("math/bits.deBruijn64tab", laid_math_bits_deBruijn64tab), ("internal/strconv.uint64pow10", laid_internal_strconv_uint64pow10)], narrowed := true }
def FnExactYearToEnglishUptoSaid : Prop := fnExactYearToEnglishUptoRow.holds Tryd.pinned (OpenSpec.upto fnExactYearToEnglishSpec)

/-- 'laws.FnExactIntervalToEnglish', WHERE WHAT IT READS IS OF BULK AT MOST 1048576: true; the input reads as it did. -/
def fnExactIntervalToEnglishUptoRow : OpenClaim := { program := "ytfkaiiconllbhaadoor", sum := "b9ada887766bbee8dcae0a74efe72c22bb91d159a2be58f2e444bf4a5263efbc", func := "loop.example/g00876/laws.FnExactIntervalToEnglish", spec := "fnExactIntervalToEnglish", recurses := true, named := ["internal/strconv.uint64pow10", "math/bits.deBruijn32tab", "math/bits.deBruijn64tab"], apart := false, laid := [("math/bits.deBruijn32tab", laid_math_bits_deBruijn32tab), ("math/bits.deBruijn64tab", laid_math_bits_deBruijn64tab), ("internal/strconv.uint64pow10", laid_internal_strconv_uint64pow10)], narrowed := true }
def FnExactIntervalToEnglishUptoSaid : Prop := fnExactIntervalToEnglishUptoRow.holds Tryd.pinned (OpenSpec.upto fnExactIntervalToEnglishSpec)

/-- 'laws.FnExactRecordToEnglish', WHERE WHAT IT READS IS OF BULK AT MOST 1048576: true; the input reads as it did. -/
def fnExactRecordToEnglishUptoRow : OpenClaim := { program := "ytfkaiiconllbhaadoor", sum := "b9ada887766bbee8dcae0a74efe72c22bb91d159a2be58f2e444bf4a5263efbc", func := "loop.example/g00876/laws.FnExactRecordToEnglish", spec := "fnExactRecordToEnglish", unfollowed := true, recurses := true, named := ["internal/strconv.uint64pow10", "math/bits.deBruijn32tab", "math/bits.deBruijn64tab"], apart := false, laid := [("math/bits.deBruijn32tab", laid_math_bits_deBruijn32tab), ("math/bits.deBruijn64tab", laid_math_bits_deBruijn64tab), ("internal/strconv.uint64pow10", laid_internal_strconv_uint64pow10)], narrowed := true }
def FnExactRecordToEnglishUptoSaid : Prop := fnExactRecordToEnglishUptoRow.holds Tryd.pinned (OpenSpec.upto fnExactRecordToEnglishSpec)

/-- 'laws.FnExactEnglishToYear', WHERE WHAT IT READS IS OF BULK AT MOST 1048576: true; the input reads as it did. -/
def fnExactEnglishToYearUptoRow : OpenClaim := { program := "ytfkaiiconllbhaadoor", sum := "b9ada887766bbee8dcae0a74efe72c22bb91d159a2be58f2e444bf4a5263efbc", func := "loop.example/g00876/laws.FnExactEnglishToYear", spec := "fnExactEnglishToYear", recurses := true, named := ["strconv.ErrSyntax", "strconv.ErrRange", "internal/strconv.uint64pow10", "math/bits.deBruijn32tab", "math/bits.deBruijn64tab"], apart := false, laid := [("math/bits.deBruijn32tab", laid_math_bits_deBruijn32tab), ("math/bits.deBruijn64tab", laid_math_bits_deBruijn64tab), ("internal/strconv.uint64pow10", laid_internal_strconv_uint64pow10), ("strconv.ErrRange", laid_strconv_ErrRange), ("strconv.ErrSyntax", laid_strconv_ErrSyntax)], narrowed := true }
def FnExactEnglishToYearUptoSaid : Prop := fnExactEnglishToYearUptoRow.holds Tryd.pinned (OpenSpec.upto fnExactEnglishToYearSpec)

/-- 'laws.FnExactEvidenceToEnglish', WHERE WHAT IT READS IS OF BULK AT MOST 1048576: true; the input reads as it did. -/
def fnExactEvidenceToEnglishUptoRow : OpenClaim := { program := "ytfkaiiconllbhaadoor", sum := "b9ada887766bbee8dcae0a74efe72c22bb91d159a2be58f2e444bf4a5263efbc", func := "loop.example/g00876/laws.FnExactEvidenceToEnglish", spec := "fnExactEvidenceToEnglish", unfollowed := true, recurses := true, named := ["internal/strconv.uint64pow10", "math/bits.deBruijn32tab", "math/bits.deBruijn64tab"], apart := false, laid := [("math/bits.deBruijn32tab", laid_math_bits_deBruijn32tab), ("math/bits.deBruijn64tab", laid_math_bits_deBruijn64tab), ("internal/strconv.uint64pow10", laid_internal_strconv_uint64pow10)], narrowed := true }
def FnExactEvidenceToEnglishUptoSaid : Prop := fnExactEvidenceToEnglishUptoRow.holds Tryd.pinned (OpenSpec.upto fnExactEvidenceToEnglishSpec)

/-- 'laws.FnExactEnglishToInterval', WHERE WHAT IT READS IS OF BULK AT MOST 1048576: true; the input reads as it did. -/
def fnExactEnglishToIntervalUptoRow : OpenClaim := { program := "ytfkaiiconllbhaadoor", sum := "b9ada887766bbee8dcae0a74efe72c22bb91d159a2be58f2e444bf4a5263efbc", func := "loop.example/g00876/laws.FnExactEnglishToInterval", spec := "fnExactEnglishToInterval", inPlace := ["internal/bytealg.IndexByteString", "internal/bytealg.IndexString"], recurses := true, named := ["strconv.ErrSyntax", "strconv.ErrRange", "internal/strconv.uint64pow10", "math/bits.deBruijn32tab", "math/bits.deBruijn64tab", "internal/bytealg.MaxLen"], apart := false, laid := [("math/bits.deBruijn32tab", laid_math_bits_deBruijn32tab), ("math/bits.deBruijn64tab", laid_math_bits_deBruijn64tab), ("internal/strconv.uint64pow10", laid_internal_strconv_uint64pow10), ("strconv.ErrRange", laid_strconv_ErrRange), ("strconv.ErrSyntax", laid_strconv_ErrSyntax)], narrowed := true }
def FnExactEnglishToIntervalUptoSaid : Prop := fnExactEnglishToIntervalUptoRow.holds Tryd.pinned (OpenSpec.upto fnExactEnglishToIntervalSpec)

end Rows
end Go.Proofs.YtfkaiiconllbhaaDoor
