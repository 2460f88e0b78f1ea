/-
  NARROWER THAN 'FOR EVERY INPUT', by the rows' own cells (each row's printed sentence says how): TraceMay: laid · TraceText: laid · TraceLimits: laid · TraceBegins: laid · TraceTurned: laid · TraceEnds: laid · TraceConflict: laid · CodeInstr: loops, laid · CodeSlots: loops, laid · CodeOthers: loops, laid · CodeFields: loops, laid · CodeMay: loops, laid · CodeOne: loops, laid · CodeShorter: loops, laid.
  DERIVED. THE GIVEN ROWS OF THIS SEAT. 14 by the template 'for every input the law returns true; each argument reads behind the call as it read before'; 0 by the template 'total and deterministic' (their statements: YtjobleemmjjocaaDoorTotals.lean).
  GIVEN WITH THE SEED: the statements are not yours to turn. If you find one false, say at which input.
  Laid BY PROGRAM, IN A SANDBOX (cutbox-rows.mjs): the forced cells as the released guide's own fill.sh prints them over the translation edfcc3a28d52b927… (all of the seat's roots in one cut). By AI agents, Wed Nov 11 2026. No macro, syntax, notation, axiom, sorry.
-/
import Derived.Test.YtjobleemmjjocaaDoorChecked
import GoSem.Claim
import GoSem.ClaimJoined
import GoSem.ClaimMapViews
import Derived.JoinedTies
import Derived.KernelRfl
namespace Go.Proofs.YtjobleemmjjocaaDoor
/- THE CELL 'sum', in the pinned program and in every row, IS THE sha256 OF THE DUMP (.gsa) THAT YtjobleemmjjocaaDoorProg.lean LOADS. Nothing in Lean hashes anything: it is a label: what it is worth is what the hold of that sum in a sandbox is worth. -/
noncomputable def Tryd.pinned : Pinned := { name := "ytjobleemmjjocaadoor", sum := "edfcc3a28d52b9279bd71203014f74c0be39c3514964a31ed8300da2d78eaffe", checked := Tryd.checked }
namespace Rows
def none {H : Type} : Left H := { results := [], args := [] }

/- WHAT THE LISTED PACKAGE-LEVEL VARIABLES READ AS WHEN THE CALL BEGINS. Each datum BY PROGRAM (the guide's laid-datum.mjs) off the statement by which the dump's own 'gosem.cut.vars' lays the variable. In a bare row this is a premise. The card (YtjobleemmjjocaaDoorCards.lean) ties it to the program's text. -/
def laid_math_bits_deBruijn32tab {H : Type} : DataW H := .agg [.lit (.int .u8 0), .lit (.int .u8 1), .lit (.int .u8 28), .lit (.int .u8 2), .lit (.int .u8 29), .lit (.int .u8 14), .lit (.int .u8 24), .lit (.int .u8 3), .lit (.int .u8 30), .lit (.int .u8 22), .lit (.int .u8 20), .lit (.int .u8 15), .lit (.int .u8 25), .lit (.int .u8 17), .lit (.int .u8 4), .lit (.int .u8 8), .lit (.int .u8 31), .lit (.int .u8 27), .lit (.int .u8 13), .lit (.int .u8 23), .lit (.int .u8 21), .lit (.int .u8 19), .lit (.int .u8 16), .lit (.int .u8 7), .lit (.int .u8 26), .lit (.int .u8 12), .lit (.int .u8 18), .lit (.int .u8 6), .lit (.int .u8 11), .lit (.int .u8 5), .lit (.int .u8 10), .lit (.int .u8 9)]
def laid_math_bits_deBruijn64tab {H : Type} : DataW H := .agg [.lit (.int .u8 0), .lit (.int .u8 1), .lit (.int .u8 56), .lit (.int .u8 2), .lit (.int .u8 57), .lit (.int .u8 49), .lit (.int .u8 28), .lit (.int .u8 3), .lit (.int .u8 61), .lit (.int .u8 58), .lit (.int .u8 42), .lit (.int .u8 50), .lit (.int .u8 38), .lit (.int .u8 29), .lit (.int .u8 17), .lit (.int .u8 4), .lit (.int .u8 62), .lit (.int .u8 47), .lit (.int .u8 59), .lit (.int .u8 36), .lit (.int .u8 45), .lit (.int .u8 43), .lit (.int .u8 51), .lit (.int .u8 22), .lit (.int .u8 53), .lit (.int .u8 39), .lit (.int .u8 33), .lit (.int .u8 30), .lit (.int .u8 24), .lit (.int .u8 18), .lit (.int .u8 12), .lit (.int .u8 5), .lit (.int .u8 63), .lit (.int .u8 55), .lit (.int .u8 48), .lit (.int .u8 27), .lit (.int .u8 60), .lit (.int .u8 41), .lit (.int .u8 37), .lit (.int .u8 16), .lit (.int .u8 46), .lit (.int .u8 35), .lit (.int .u8 44), .lit (.int .u8 21), .lit (.int .u8 52), .lit (.int .u8 32), .lit (.int .u8 23), .lit (.int .u8 11), .lit (.int .u8 54), .lit (.int .u8 26), .lit (.int .u8 40), .lit (.int .u8 15), .lit (.int .u8 34), .lit (.int .u8 20), .lit (.int .u8 31), .lit (.int .u8 10), .lit (.int .u8 25), .lit (.int .u8 14), .lit (.int .u8 19), .lit (.int .u8 9), .lit (.int .u8 13), .lit (.int .u8 8), .lit (.int .u8 7), .lit (.int .u8 6)]
def laid_internal_strconv_uint64pow10 {H : Type} : DataW H := .agg [.lit (.int .u64 1), .lit (.int .u64 10), .lit (.int .u64 100), .lit (.int .u64 1000), .lit (.int .u64 10000), .lit (.int .u64 100000), .lit (.int .u64 1000000), .lit (.int .u64 10000000), .lit (.int .u64 100000000), .lit (.int .u64 1000000000), .lit (.int .u64 10000000000), .lit (.int .u64 100000000000), .lit (.int .u64 1000000000000), .lit (.int .u64 10000000000000), .lit (.int .u64 100000000000000), .lit (.int .u64 1000000000000000), .lit (.int .u64 10000000000000000), .lit (.int .u64 100000000000000000), .lit (.int .u64 1000000000000000000), .lit (.int .u64 10000000000000000000)]

/-- 'weftwaylaw25.TraceMay': WHATEVER THE INPUT: true; the input reads as it did. -/
def traceMaySpec : ChangeSpec := { name := "traceMay", fn := fun _ => fun
  | [d] => { results := [.lit (.bool true)], args := [d] }
  | _ => none }
def traceMayRow : OpenClaim := { program := "ytjobleemmjjocaadoor", sum := "edfcc3a28d52b9279bd71203014f74c0be39c3514964a31ed8300da2d78eaffe", func := "weftway/weftwaylaw25.TraceMay", spec := "traceMay", unfollowed := true, recurses := true, named := ["internal/strconv.uint64pow10", "math/bits.deBruijn32tab", "math/bits.deBruijn64tab"], apart := false, laid := [("math/bits.deBruijn32tab", laid_math_bits_deBruijn32tab), ("math/bits.deBruijn64tab", laid_math_bits_deBruijn64tab), ("internal/strconv.uint64pow10", laid_internal_strconv_uint64pow10)] }
def TraceMaySaid : Prop := traceMayRow.holds Tryd.pinned (OpenSpec.ofChange traceMaySpec)

/-- ITS FALSE NEIGHBOUR: 'it returns false'. Refute it at one input. -/
def traceMayWrong : ChangeSpec := { name := "traceMay", fn := fun _ => fun
  | [d] => { results := [.lit (.bool false)], args := [d] }
  | _ => none }
def TraceMayWrongFalsely : Prop := traceMayRow.holds Tryd.pinned (OpenSpec.ofChange traceMayWrong)

/-- 'weftwaylaw25.TraceText': WHATEVER THE INPUT: true; the input reads as it did. -/
def traceTextSpec : ChangeSpec := { name := "traceText", fn := fun _ => fun
  | [d] => { results := [.lit (.bool true)], args := [d] }
  | _ => none }
def traceTextRow : OpenClaim := { program := "ytjobleemmjjocaadoor", sum := "edfcc3a28d52b9279bd71203014f74c0be39c3514964a31ed8300da2d78eaffe", func := "weftway/weftwaylaw25.TraceText", spec := "traceText", unfollowed := true, recurses := true, named := ["internal/strconv.uint64pow10", "math/bits.deBruijn32tab", "math/bits.deBruijn64tab"], apart := false, laid := [("math/bits.deBruijn32tab", laid_math_bits_deBruijn32tab), ("math/bits.deBruijn64tab", laid_math_bits_deBruijn64tab), ("internal/strconv.uint64pow10", laid_internal_strconv_uint64pow10)] }
def TraceTextSaid : Prop := traceTextRow.holds Tryd.pinned (OpenSpec.ofChange traceTextSpec)

/-- ITS FALSE NEIGHBOUR: 'it returns false'. Refute it at one input. -/
def traceTextWrong : ChangeSpec := { name := "traceText", fn := fun _ => fun
  | [d] => { results := [.lit (.bool false)], args := [d] }
  | _ => none }
def TraceTextWrongFalsely : Prop := traceTextRow.holds Tryd.pinned (OpenSpec.ofChange traceTextWrong)

/-- 'weftwaylaw25.TraceLimits': WHATEVER THE INPUT: true; the input reads as it did. -/
def traceLimitsSpec : ChangeSpec := { name := "traceLimits", fn := fun _ => fun
  | [d1, d2] => { results := [.lit (.bool true)], args := [d1, d2] }
  | _ => none }
def traceLimitsRow : OpenClaim := { program := "ytjobleemmjjocaadoor", sum := "edfcc3a28d52b9279bd71203014f74c0be39c3514964a31ed8300da2d78eaffe", func := "weftway/weftwaylaw25.TraceLimits", spec := "traceLimits", unfollowed := true, recurses := true, named := ["internal/strconv.uint64pow10", "math/bits.deBruijn32tab", "math/bits.deBruijn64tab"], apart := false, laid := [("math/bits.deBruijn32tab", laid_math_bits_deBruijn32tab), ("math/bits.deBruijn64tab", laid_math_bits_deBruijn64tab), ("internal/strconv.uint64pow10", laid_internal_strconv_uint64pow10)] }
def TraceLimitsSaid : Prop := traceLimitsRow.holds Tryd.pinned (OpenSpec.ofChange traceLimitsSpec)

/-- ITS FALSE NEIGHBOUR: 'it returns false'. Refute it at one input. -/
def traceLimitsWrong : ChangeSpec := { name := "traceLimits", fn := fun _ => fun
  | [d1, d2] => { results := [.lit (.bool false)], args := [d1, d2] }
  | _ => none }
def TraceLimitsWrongFalsely : Prop := traceLimitsRow.holds Tryd.pinned (OpenSpec.ofChange traceLimitsWrong)

/-- 'weftwaylaw25.TraceBegins': WHATEVER THE INPUT: true; the input reads as it did. -/
def traceBeginsSpec : ChangeSpec := { name := "traceBegins", fn := fun _ => fun
  | [d1, d2] => { results := [.lit (.bool true)], args := [d1, d2] }
  | _ => none }
def traceBeginsRow : OpenClaim := { program := "ytjobleemmjjocaadoor", sum := "edfcc3a28d52b9279bd71203014f74c0be39c3514964a31ed8300da2d78eaffe", func := "weftway/weftwaylaw25.TraceBegins", spec := "traceBegins", unfollowed := true, recurses := true, named := ["internal/strconv.uint64pow10", "math/bits.deBruijn32tab", "math/bits.deBruijn64tab"], apart := false, laid := [("math/bits.deBruijn32tab", laid_math_bits_deBruijn32tab), ("math/bits.deBruijn64tab", laid_math_bits_deBruijn64tab), ("internal/strconv.uint64pow10", laid_internal_strconv_uint64pow10)] }
def TraceBeginsSaid : Prop := traceBeginsRow.holds Tryd.pinned (OpenSpec.ofChange traceBeginsSpec)

/-- ITS FALSE NEIGHBOUR: 'it returns false'. Refute it at one input. -/
def traceBeginsWrong : ChangeSpec := { name := "traceBegins", fn := fun _ => fun
  | [d1, d2] => { results := [.lit (.bool false)], args := [d1, d2] }
  | _ => none }
def TraceBeginsWrongFalsely : Prop := traceBeginsRow.holds Tryd.pinned (OpenSpec.ofChange traceBeginsWrong)

/-- 'weftwaylaw25.TraceTurned': WHATEVER THE INPUT: true; the input reads as it did. -/
def traceTurnedSpec : ChangeSpec := { name := "traceTurned", fn := fun _ => fun
  | [d1, d2, d3] => { results := [.lit (.bool true)], args := [d1, d2, d3] }
  | _ => none }
def traceTurnedRow : OpenClaim := { program := "ytjobleemmjjocaadoor", sum := "edfcc3a28d52b9279bd71203014f74c0be39c3514964a31ed8300da2d78eaffe", func := "weftway/weftwaylaw25.TraceTurned", spec := "traceTurned", unfollowed := true, recurses := true, named := ["internal/strconv.uint64pow10", "math/bits.deBruijn32tab", "math/bits.deBruijn64tab"], apart := false, laid := [("math/bits.deBruijn32tab", laid_math_bits_deBruijn32tab), ("math/bits.deBruijn64tab", laid_math_bits_deBruijn64tab), ("internal/strconv.uint64pow10", laid_internal_strconv_uint64pow10)] }
def TraceTurnedSaid : Prop := traceTurnedRow.holds Tryd.pinned (OpenSpec.ofChange traceTurnedSpec)

/-- ITS FALSE NEIGHBOUR: 'it returns false'. Refute it at one input. -/
def traceTurnedWrong : ChangeSpec := { name := "traceTurned", fn := fun _ => fun
  | [d1, d2, d3] => { results := [.lit (.bool false)], args := [d1, d2, d3] }
  | _ => none }
def TraceTurnedWrongFalsely : Prop := traceTurnedRow.holds Tryd.pinned (OpenSpec.ofChange traceTurnedWrong)

/-- 'weftwaylaw25.TraceEnds': WHATEVER THE INPUT: true; the input reads as it did. -/
def traceEndsSpec : ChangeSpec := { name := "traceEnds", fn := fun _ => fun
  | [d1, d2] => { results := [.lit (.bool true)], args := [d1, d2] }
  | _ => none }
def traceEndsRow : OpenClaim := { program := "ytjobleemmjjocaadoor", sum := "edfcc3a28d52b9279bd71203014f74c0be39c3514964a31ed8300da2d78eaffe", func := "weftway/weftwaylaw25.TraceEnds", spec := "traceEnds", unfollowed := true, recurses := true, named := ["internal/strconv.uint64pow10", "math/bits.deBruijn32tab", "math/bits.deBruijn64tab"], apart := false, laid := [("math/bits.deBruijn32tab", laid_math_bits_deBruijn32tab), ("math/bits.deBruijn64tab", laid_math_bits_deBruijn64tab), ("internal/strconv.uint64pow10", laid_internal_strconv_uint64pow10)] }
def TraceEndsSaid : Prop := traceEndsRow.holds Tryd.pinned (OpenSpec.ofChange traceEndsSpec)

/-- ITS FALSE NEIGHBOUR: 'it returns false'. Refute it at one input. -/
def traceEndsWrong : ChangeSpec := { name := "traceEnds", fn := fun _ => fun
  | [d1, d2] => { results := [.lit (.bool false)], args := [d1, d2] }
  | _ => none }
def TraceEndsWrongFalsely : Prop := traceEndsRow.holds Tryd.pinned (OpenSpec.ofChange traceEndsWrong)

/-- 'weftwaylaw25.TraceConflict': WHATEVER THE INPUT: true; the input reads as it did. -/
def traceConflictSpec : ChangeSpec := { name := "traceConflict", fn := fun _ => fun
  | [d1, d2] => { results := [.lit (.bool true)], args := [d1, d2] }
  | _ => none }
def traceConflictRow : OpenClaim := { program := "ytjobleemmjjocaadoor", sum := "edfcc3a28d52b9279bd71203014f74c0be39c3514964a31ed8300da2d78eaffe", func := "weftway/weftwaylaw25.TraceConflict", spec := "traceConflict", unfollowed := true, recurses := true, named := ["internal/strconv.uint64pow10", "math/bits.deBruijn32tab", "math/bits.deBruijn64tab"], apart := false, laid := [("math/bits.deBruijn32tab", laid_math_bits_deBruijn32tab), ("math/bits.deBruijn64tab", laid_math_bits_deBruijn64tab), ("internal/strconv.uint64pow10", laid_internal_strconv_uint64pow10)] }
def TraceConflictSaid : Prop := traceConflictRow.holds Tryd.pinned (OpenSpec.ofChange traceConflictSpec)

/-- ITS FALSE NEIGHBOUR: 'it returns false'. Refute it at one input. -/
def traceConflictWrong : ChangeSpec := { name := "traceConflict", fn := fun _ => fun
  | [d1, d2] => { results := [.lit (.bool false)], args := [d1, d2] }
  | _ => none }
def TraceConflictWrongFalsely : Prop := traceConflictRow.holds Tryd.pinned (OpenSpec.ofChange traceConflictWrong)

/-- 'weftwaylaw17.CodeInstr': WHATEVER THE INPUT: true; the input reads as it did. -/
def codeInstrSpec : ChangeSpec := { name := "codeInstr", fn := fun _ => fun
  | [d1, d2, d3] => { results := [.lit (.bool true)], args := [d1, d2, d3] }
  | _ => none }
def codeInstrRow : OpenClaim := { program := "ytjobleemmjjocaadoor", sum := "edfcc3a28d52b9279bd71203014f74c0be39c3514964a31ed8300da2d78eaffe", func := "weftway/weftwaylaw17.CodeInstr", spec := "codeInstr", inPlace := ["internal/abi.NoEscape", "internal/bytealg.MakeNoZero"], unfollowed := true, recurses := true, named := ["internal/strconv.uint64pow10", "math/bits.deBruijn32tab", "math/bits.deBruijn64tab"], loops := true, apart := false, laid := [("math/bits.deBruijn32tab", laid_math_bits_deBruijn32tab), ("math/bits.deBruijn64tab", laid_math_bits_deBruijn64tab), ("internal/strconv.uint64pow10", laid_internal_strconv_uint64pow10)] }
def CodeInstrSaid : Prop := codeInstrRow.holds Tryd.pinned (OpenSpec.ofChange codeInstrSpec)

/-- ITS FALSE NEIGHBOUR: 'it returns false'. Refute it at one input. -/
def codeInstrWrong : ChangeSpec := { name := "codeInstr", fn := fun _ => fun
  | [d1, d2, d3] => { results := [.lit (.bool false)], args := [d1, d2, d3] }
  | _ => none }
def CodeInstrWrongFalsely : Prop := codeInstrRow.holds Tryd.pinned (OpenSpec.ofChange codeInstrWrong)

/-- 'weftwaylaw17.CodeSlots': WHATEVER THE INPUT: true; the input reads as it did. -/
def codeSlotsSpec : ChangeSpec := { name := "codeSlots", fn := fun _ => fun
  | [d1, d2, d3, d4] => { results := [.lit (.bool true)], args := [d1, d2, d3, d4] }
  | _ => none }
def codeSlotsRow : OpenClaim := { program := "ytjobleemmjjocaadoor", sum := "edfcc3a28d52b9279bd71203014f74c0be39c3514964a31ed8300da2d78eaffe", func := "weftway/weftwaylaw17.CodeSlots", spec := "codeSlots", inPlace := ["internal/abi.NoEscape", "internal/bytealg.MakeNoZero"], unfollowed := true, recurses := true, named := ["internal/strconv.uint64pow10", "math/bits.deBruijn32tab", "math/bits.deBruijn64tab"], loops := true, apart := false, laid := [("math/bits.deBruijn32tab", laid_math_bits_deBruijn32tab), ("math/bits.deBruijn64tab", laid_math_bits_deBruijn64tab), ("internal/strconv.uint64pow10", laid_internal_strconv_uint64pow10)] }
def CodeSlotsSaid : Prop := codeSlotsRow.holds Tryd.pinned (OpenSpec.ofChange codeSlotsSpec)

/-- ITS FALSE NEIGHBOUR: 'it returns false'. Refute it at one input. -/
def codeSlotsWrong : ChangeSpec := { name := "codeSlots", fn := fun _ => fun
  | [d1, d2, d3, d4] => { results := [.lit (.bool false)], args := [d1, d2, d3, d4] }
  | _ => none }
def CodeSlotsWrongFalsely : Prop := codeSlotsRow.holds Tryd.pinned (OpenSpec.ofChange codeSlotsWrong)

/-- 'weftwaylaw17.CodeOthers': WHATEVER THE INPUT: true; the input reads as it did. -/
def codeOthersSpec : ChangeSpec := { name := "codeOthers", fn := fun _ => fun
  | [d1, d2, d3] => { results := [.lit (.bool true)], args := [d1, d2, d3] }
  | _ => none }
def codeOthersRow : OpenClaim := { program := "ytjobleemmjjocaadoor", sum := "edfcc3a28d52b9279bd71203014f74c0be39c3514964a31ed8300da2d78eaffe", func := "weftway/weftwaylaw17.CodeOthers", spec := "codeOthers", inPlace := ["internal/abi.NoEscape", "internal/bytealg.MakeNoZero"], unfollowed := true, recurses := true, named := ["internal/strconv.uint64pow10", "math/bits.deBruijn32tab", "math/bits.deBruijn64tab"], loops := true, apart := false, laid := [("math/bits.deBruijn32tab", laid_math_bits_deBruijn32tab), ("math/bits.deBruijn64tab", laid_math_bits_deBruijn64tab), ("internal/strconv.uint64pow10", laid_internal_strconv_uint64pow10)] }
def CodeOthersSaid : Prop := codeOthersRow.holds Tryd.pinned (OpenSpec.ofChange codeOthersSpec)

/-- ITS FALSE NEIGHBOUR: 'it returns false'. Refute it at one input. -/
def codeOthersWrong : ChangeSpec := { name := "codeOthers", fn := fun _ => fun
  | [d1, d2, d3] => { results := [.lit (.bool false)], args := [d1, d2, d3] }
  | _ => none }
def CodeOthersWrongFalsely : Prop := codeOthersRow.holds Tryd.pinned (OpenSpec.ofChange codeOthersWrong)

/-- 'weftwaylaw17.CodeFields': WHATEVER THE INPUT: true; the input reads as it did. -/
def codeFieldsSpec : ChangeSpec := { name := "codeFields", fn := fun _ => fun
  | [d1, d2, d3, d4] => { results := [.lit (.bool true)], args := [d1, d2, d3, d4] }
  | _ => none }
def codeFieldsRow : OpenClaim := { program := "ytjobleemmjjocaadoor", sum := "edfcc3a28d52b9279bd71203014f74c0be39c3514964a31ed8300da2d78eaffe", func := "weftway/weftwaylaw17.CodeFields", spec := "codeFields", inPlace := ["internal/abi.NoEscape", "internal/bytealg.MakeNoZero"], unfollowed := true, recurses := true, named := ["internal/strconv.uint64pow10", "math/bits.deBruijn32tab", "math/bits.deBruijn64tab"], loops := true, apart := false, laid := [("math/bits.deBruijn32tab", laid_math_bits_deBruijn32tab), ("math/bits.deBruijn64tab", laid_math_bits_deBruijn64tab), ("internal/strconv.uint64pow10", laid_internal_strconv_uint64pow10)] }
def CodeFieldsSaid : Prop := codeFieldsRow.holds Tryd.pinned (OpenSpec.ofChange codeFieldsSpec)

/-- ITS FALSE NEIGHBOUR: 'it returns false'. Refute it at one input. -/
def codeFieldsWrong : ChangeSpec := { name := "codeFields", fn := fun _ => fun
  | [d1, d2, d3, d4] => { results := [.lit (.bool false)], args := [d1, d2, d3, d4] }
  | _ => none }
def CodeFieldsWrongFalsely : Prop := codeFieldsRow.holds Tryd.pinned (OpenSpec.ofChange codeFieldsWrong)

/-- 'weftwaylaw17.CodeMay': WHATEVER THE INPUT: true; the input reads as it did. -/
def codeMaySpec : ChangeSpec := { name := "codeMay", fn := fun _ => fun
  | [d] => { results := [.lit (.bool true)], args := [d] }
  | _ => none }
def codeMayRow : OpenClaim := { program := "ytjobleemmjjocaadoor", sum := "edfcc3a28d52b9279bd71203014f74c0be39c3514964a31ed8300da2d78eaffe", func := "weftway/weftwaylaw17.CodeMay", spec := "codeMay", inPlace := ["internal/abi.NoEscape", "internal/bytealg.MakeNoZero"], unfollowed := true, recurses := true, named := ["internal/strconv.uint64pow10", "math/bits.deBruijn32tab", "math/bits.deBruijn64tab"], loops := true, apart := false, laid := [("math/bits.deBruijn32tab", laid_math_bits_deBruijn32tab), ("math/bits.deBruijn64tab", laid_math_bits_deBruijn64tab), ("internal/strconv.uint64pow10", laid_internal_strconv_uint64pow10)] }
def CodeMaySaid : Prop := codeMayRow.holds Tryd.pinned (OpenSpec.ofChange codeMaySpec)

/-- ITS FALSE NEIGHBOUR: 'it returns false'. Refute it at one input. -/
def codeMayWrong : ChangeSpec := { name := "codeMay", fn := fun _ => fun
  | [d] => { results := [.lit (.bool false)], args := [d] }
  | _ => none }
def CodeMayWrongFalsely : Prop := codeMayRow.holds Tryd.pinned (OpenSpec.ofChange codeMayWrong)

/-- 'weftwaylaw17.CodeOne': WHATEVER THE INPUT: true; the input reads as it did. -/
def codeOneSpec : ChangeSpec := { name := "codeOne", fn := fun _ => fun
  | [d] => { results := [.lit (.bool true)], args := [d] }
  | _ => none }
def codeOneRow : OpenClaim := { program := "ytjobleemmjjocaadoor", sum := "edfcc3a28d52b9279bd71203014f74c0be39c3514964a31ed8300da2d78eaffe", func := "weftway/weftwaylaw17.CodeOne", spec := "codeOne", inPlace := ["internal/abi.NoEscape", "internal/bytealg.MakeNoZero"], unfollowed := true, recurses := true, named := ["internal/strconv.uint64pow10", "math/bits.deBruijn32tab", "math/bits.deBruijn64tab"], loops := true, apart := false, laid := [("math/bits.deBruijn32tab", laid_math_bits_deBruijn32tab), ("math/bits.deBruijn64tab", laid_math_bits_deBruijn64tab), ("internal/strconv.uint64pow10", laid_internal_strconv_uint64pow10)] }
def CodeOneSaid : Prop := codeOneRow.holds Tryd.pinned (OpenSpec.ofChange codeOneSpec)

/-- ITS FALSE NEIGHBOUR: 'it returns false'. Refute it at one input. -/
def codeOneWrong : ChangeSpec := { name := "codeOne", fn := fun _ => fun
  | [d] => { results := [.lit (.bool false)], args := [d] }
  | _ => none }
def CodeOneWrongFalsely : Prop := codeOneRow.holds Tryd.pinned (OpenSpec.ofChange codeOneWrong)

/-- 'weftwaylaw17.CodeShorter': WHATEVER THE INPUT: true; the input reads as it did. -/
def codeShorterSpec : ChangeSpec := { name := "codeShorter", fn := fun _ => fun
  | [d1, d2] => { results := [.lit (.bool true)], args := [d1, d2] }
  | _ => none }
def codeShorterRow : OpenClaim := { program := "ytjobleemmjjocaadoor", sum := "edfcc3a28d52b9279bd71203014f74c0be39c3514964a31ed8300da2d78eaffe", func := "weftway/weftwaylaw17.CodeShorter", spec := "codeShorter", inPlace := ["internal/abi.NoEscape", "internal/bytealg.MakeNoZero"], unfollowed := true, recurses := true, named := ["internal/strconv.uint64pow10", "math/bits.deBruijn32tab", "math/bits.deBruijn64tab"], loops := true, apart := false, laid := [("math/bits.deBruijn32tab", laid_math_bits_deBruijn32tab), ("math/bits.deBruijn64tab", laid_math_bits_deBruijn64tab), ("internal/strconv.uint64pow10", laid_internal_strconv_uint64pow10)] }
def CodeShorterSaid : Prop := codeShorterRow.holds Tryd.pinned (OpenSpec.ofChange codeShorterSpec)

/-- ITS FALSE NEIGHBOUR: 'it returns false'. Refute it at one input. -/
def codeShorterWrong : ChangeSpec := { name := "codeShorter", fn := fun _ => fun
  | [d1, d2] => { results := [.lit (.bool false)], args := [d1, d2] }
  | _ => none }
def CodeShorterWrongFalsely : Prop := codeShorterRow.holds Tryd.pinned (OpenSpec.ofChange codeShorterWrong)

/- THE SECOND FORM. 'bulk': how many values and letters a reading holds, each counted each time it is reached (what is shared counts as often as it is met; a slice's spare places count too). A statement '..UptoSaid' is the law's where the arguments, and the package variables that the reading takes, are together of bulk at most 1048576: NARROWER than '..Said'. Prove '..Said' where nothing that the law and all that it calls make is longer than what came in: it says more and counts as full. Else prove '..UptoSaid'. A law counts once. -/
mutual
def uptoBulk {H : Type} : DataW H → Nat
  | .lit (.string bytes) => bytes.length + 1
  | .lit _ => 1
  | .nil => 1
  | .ptr d => uptoBulk d + 1
  | .slice elems spare => uptoBulkAll elems + uptoBulkAll spare + 1
  | .agg parts => uptoBulkAll parts + 1
  | .iface _ d => uptoBulk d + 1
  | .map entries => uptoBulkEntries entries + 1
  | .held _ => 1
def uptoBulkAll {H : Type} : List (DataW H) → Nat
  | [] => 0
  | d :: r => uptoBulk d + uptoBulkAll r
def uptoBulkEntries {H : Type} : List (Lit × DataW H) → Nat
  | [] => 0
  | x :: r => uptoBulkEntry x + uptoBulkEntries r
def uptoBulkEntry {H : Type} : Lit × DataW H → Nat
  | (.string bytes, d) => bytes.length + uptoBulk d + 1
  | (_, d) => uptoBulk d + 1
 end
def uptoSmall : (H : Type) → List (DataW H) → Bool := fun _ ds => decide (uptoBulkAll ds ≤ 1048576)
def OpenSpec.upto (s : _root_.Go.ChangeSpec) : _root_.Go.OpenSpec := { _root_.Go.OpenSpec.ofChange s with cond := some uptoSmall }

/-- 'weftwaylaw25.TraceMay', WHERE WHAT IT READS IS OF BULK AT MOST 1048576: true; the input reads as it did. -/
def traceMayUptoRow : OpenClaim := { program := "ytjobleemmjjocaadoor", sum := "edfcc3a28d52b9279bd71203014f74c0be39c3514964a31ed8300da2d78eaffe", func := "weftway/weftwaylaw25.TraceMay", spec := "traceMay", unfollowed := true, recurses := true, named := ["internal/strconv.uint64pow10", "math/bits.deBruijn32tab", "math/bits.deBruijn64tab"], apart := false, laid := [("math/bits.deBruijn32tab", laid_math_bits_deBruijn32tab), ("math/bits.deBruijn64tab", laid_math_bits_deBruijn64tab), ("internal/strconv.uint64pow10", laid_internal_strconv_uint64pow10)], narrowed := true }
def TraceMayUptoSaid : Prop := traceMayUptoRow.holds Tryd.pinned (OpenSpec.upto traceMaySpec)

/-- 'weftwaylaw25.TraceText', WHERE WHAT IT READS IS OF BULK AT MOST 1048576: true; the input reads as it did. -/
def traceTextUptoRow : OpenClaim := { program := "ytjobleemmjjocaadoor", sum := "edfcc3a28d52b9279bd71203014f74c0be39c3514964a31ed8300da2d78eaffe", func := "weftway/weftwaylaw25.TraceText", spec := "traceText", unfollowed := true, recurses := true, named := ["internal/strconv.uint64pow10", "math/bits.deBruijn32tab", "math/bits.deBruijn64tab"], apart := false, laid := [("math/bits.deBruijn32tab", laid_math_bits_deBruijn32tab), ("math/bits.deBruijn64tab", laid_math_bits_deBruijn64tab), ("internal/strconv.uint64pow10", laid_internal_strconv_uint64pow10)], narrowed := true }
def TraceTextUptoSaid : Prop := traceTextUptoRow.holds Tryd.pinned (OpenSpec.upto traceTextSpec)

/-- 'weftwaylaw25.TraceLimits', WHERE WHAT IT READS IS OF BULK AT MOST 1048576: true; the input reads as it did. -/
def traceLimitsUptoRow : OpenClaim := { program := "ytjobleemmjjocaadoor", sum := "edfcc3a28d52b9279bd71203014f74c0be39c3514964a31ed8300da2d78eaffe", func := "weftway/weftwaylaw25.TraceLimits", spec := "traceLimits", unfollowed := true, recurses := true, named := ["internal/strconv.uint64pow10", "math/bits.deBruijn32tab", "math/bits.deBruijn64tab"], apart := false, laid := [("math/bits.deBruijn32tab", laid_math_bits_deBruijn32tab), ("math/bits.deBruijn64tab", laid_math_bits_deBruijn64tab), ("internal/strconv.uint64pow10", laid_internal_strconv_uint64pow10)], narrowed := true }
def TraceLimitsUptoSaid : Prop := traceLimitsUptoRow.holds Tryd.pinned (OpenSpec.upto traceLimitsSpec)

/-- 'weftwaylaw25.TraceBegins', WHERE WHAT IT READS IS OF BULK AT MOST 1048576: true; the input reads as it did. -/
def traceBeginsUptoRow : OpenClaim := { program := "ytjobleemmjjocaadoor", sum := "edfcc3a28d52b9279bd71203014f74c0be39c3514964a31ed8300da2d78eaffe", func := "weftway/weftwaylaw25.TraceBegins", spec := "traceBegins", unfollowed := true, recurses := true, named := ["internal/strconv.uint64pow10", "math/bits.deBruijn32tab", "math/bits.deBruijn64tab"], apart := false, laid := [("math/bits.deBruijn32tab", laid_math_bits_deBruijn32tab), ("math/bits.deBruijn64tab", laid_math_bits_deBruijn64tab), ("internal/strconv.uint64pow10", laid_internal_strconv_uint64pow10)], narrowed := true }
def TraceBeginsUptoSaid : Prop := traceBeginsUptoRow.holds Tryd.pinned (OpenSpec.upto traceBeginsSpec)

/-- 'weftwaylaw25.TraceTurned', WHERE WHAT IT READS IS OF BULK AT MOST 1048576: true; the input reads as it did. -/
def traceTurnedUptoRow : OpenClaim := { program := "ytjobleemmjjocaadoor", sum := "edfcc3a28d52b9279bd71203014f74c0be39c3514964a31ed8300da2d78eaffe", func := "weftway/weftwaylaw25.TraceTurned", spec := "traceTurned", unfollowed := true, recurses := true, named := ["internal/strconv.uint64pow10", "math/bits.deBruijn32tab", "math/bits.deBruijn64tab"], apart := false, laid := [("math/bits.deBruijn32tab", laid_math_bits_deBruijn32tab), ("math/bits.deBruijn64tab", laid_math_bits_deBruijn64tab), ("internal/strconv.uint64pow10", laid_internal_strconv_uint64pow10)], narrowed := true }
def TraceTurnedUptoSaid : Prop := traceTurnedUptoRow.holds Tryd.pinned (OpenSpec.upto traceTurnedSpec)

/-- 'weftwaylaw25.TraceEnds', WHERE WHAT IT READS IS OF BULK AT MOST 1048576: true; the input reads as it did. -/
def traceEndsUptoRow : OpenClaim := { program := "ytjobleemmjjocaadoor", sum := "edfcc3a28d52b9279bd71203014f74c0be39c3514964a31ed8300da2d78eaffe", func := "weftway/weftwaylaw25.TraceEnds", spec := "traceEnds", unfollowed := true, recurses := true, named := ["internal/strconv.uint64pow10", "math/bits.deBruijn32tab", "math/bits.deBruijn64tab"], apart := false, laid := [("math/bits.deBruijn32tab", laid_math_bits_deBruijn32tab), ("math/bits.deBruijn64tab", laid_math_bits_deBruijn64tab), ("internal/strconv.uint64pow10", laid_internal_strconv_uint64pow10)], narrowed := true }
def TraceEndsUptoSaid : Prop := traceEndsUptoRow.holds Tryd.pinned (OpenSpec.upto traceEndsSpec)

/-- 'weftwaylaw25.TraceConflict', WHERE WHAT IT READS IS OF BULK AT MOST 1048576: true; the input reads as it did. -/
def traceConflictUptoRow : OpenClaim := { program := "ytjobleemmjjocaadoor", sum := "edfcc3a28d52b9279bd71203014f74c0be39c3514964a31ed8300da2d78eaffe", func := "weftway/weftwaylaw25.TraceConflict", spec := "traceConflict", unfollowed := true, recurses := true, named := ["internal/strconv.uint64pow10", "math/bits.deBruijn32tab", "math/bits.deBruijn64tab"], apart := false, laid := [("math/bits.deBruijn32tab", laid_math_bits_deBruijn32tab), ("math/bits.deBruijn64tab", laid_math_bits_deBruijn64tab), ("internal/strconv.uint64pow10", laid_internal_strconv_uint64pow10)], narrowed := true }
def TraceConflictUptoSaid : Prop := traceConflictUptoRow.holds Tryd.pinned (OpenSpec.upto traceConflictSpec)

/-- 'weftwaylaw17.CodeInstr', WHERE WHAT IT READS IS OF BULK AT MOST 1048576: true; the input reads as it did. -/
def codeInstrUptoRow : OpenClaim := { program := "ytjobleemmjjocaadoor", sum := "edfcc3a28d52b9279bd71203014f74c0be39c3514964a31ed8300da2d78eaffe", func := "weftway/weftwaylaw17.CodeInstr", spec := "codeInstr", inPlace := ["internal/abi.NoEscape", "internal/bytealg.MakeNoZero"], unfollowed := true, recurses := true, named := ["internal/strconv.uint64pow10", "math/bits.deBruijn32tab", "math/bits.deBruijn64tab"], loops := true, apart := false, laid := [("math/bits.deBruijn32tab", laid_math_bits_deBruijn32tab), ("math/bits.deBruijn64tab", laid_math_bits_deBruijn64tab), ("internal/strconv.uint64pow10", laid_internal_strconv_uint64pow10)], narrowed := true }
def CodeInstrUptoSaid : Prop := codeInstrUptoRow.holds Tryd.pinned (OpenSpec.upto codeInstrSpec)

/-- 'weftwaylaw17.CodeSlots', WHERE WHAT IT READS IS OF BULK AT MOST 1048576: true; the input reads as it did. -/
def codeSlotsUptoRow : OpenClaim := { program := "ytjobleemmjjocaadoor", sum := "edfcc3a28d52b9279bd71203014f74c0be39c3514964a31ed8300da2d78eaffe", func := "weftway/weftwaylaw17.CodeSlots", spec := "codeSlots", inPlace := ["internal/abi.NoEscape", "internal/bytealg.MakeNoZero"], unfollowed := true, recurses := true, named := ["internal/strconv.uint64pow10", "math/bits.deBruijn32tab", "math/bits.deBruijn64tab"], loops := true, apart := false, laid := [("math/bits.deBruijn32tab", laid_math_bits_deBruijn32tab), ("math/bits.deBruijn64tab", laid_math_bits_deBruijn64tab), ("internal/strconv.uint64pow10", laid_internal_strconv_uint64pow10)], narrowed := true }
def CodeSlotsUptoSaid : Prop := codeSlotsUptoRow.holds Tryd.pinned (OpenSpec.upto codeSlotsSpec)

/-- 'weftwaylaw17.CodeOthers', WHERE WHAT IT READS IS OF BULK AT MOST 1048576: true; the input reads as it did. -/
def codeOthersUptoRow : OpenClaim := { program := "ytjobleemmjjocaadoor", sum := "edfcc3a28d52b9279bd71203014f74c0be39c3514964a31ed8300da2d78eaffe", func := "weftway/weftwaylaw17.CodeOthers", spec := "codeOthers", inPlace := ["internal/abi.NoEscape", "internal/bytealg.MakeNoZero"], unfollowed := true, recurses := true, named := ["internal/strconv.uint64pow10", "math/bits.deBruijn32tab", "math/bits.deBruijn64tab"], loops := true, apart := false, laid := [("math/bits.deBruijn32tab", laid_math_bits_deBruijn32tab), ("math/bits.deBruijn64tab", laid_math_bits_deBruijn64tab), ("internal/strconv.uint64pow10", laid_internal_strconv_uint64pow10)], narrowed := true }
def CodeOthersUptoSaid : Prop := codeOthersUptoRow.holds Tryd.pinned (OpenSpec.upto codeOthersSpec)

/-- 'weftwaylaw17.CodeFields', WHERE WHAT IT READS IS OF BULK AT MOST 1048576: true; the input reads as it did. -/
def codeFieldsUptoRow : OpenClaim := { program := "ytjobleemmjjocaadoor", sum := "edfcc3a28d52b9279bd71203014f74c0be39c3514964a31ed8300da2d78eaffe", func := "weftway/weftwaylaw17.CodeFields", spec := "codeFields", inPlace := ["internal/abi.NoEscape", "internal/bytealg.MakeNoZero"], unfollowed := true, recurses := true, named := ["internal/strconv.uint64pow10", "math/bits.deBruijn32tab", "math/bits.deBruijn64tab"], loops := true, apart := false, laid := [("math/bits.deBruijn32tab", laid_math_bits_deBruijn32tab), ("math/bits.deBruijn64tab", laid_math_bits_deBruijn64tab), ("internal/strconv.uint64pow10", laid_internal_strconv_uint64pow10)], narrowed := true }
def CodeFieldsUptoSaid : Prop := codeFieldsUptoRow.holds Tryd.pinned (OpenSpec.upto codeFieldsSpec)

/-- 'weftwaylaw17.CodeMay', WHERE WHAT IT READS IS OF BULK AT MOST 1048576: true; the input reads as it did. -/
def codeMayUptoRow : OpenClaim := { program := "ytjobleemmjjocaadoor", sum := "edfcc3a28d52b9279bd71203014f74c0be39c3514964a31ed8300da2d78eaffe", func := "weftway/weftwaylaw17.CodeMay", spec := "codeMay", inPlace := ["internal/abi.NoEscape", "internal/bytealg.MakeNoZero"], unfollowed := true, recurses := true, named := ["internal/strconv.uint64pow10", "math/bits.deBruijn32tab", "math/bits.deBruijn64tab"], loops := true, apart := false, laid := [("math/bits.deBruijn32tab", laid_math_bits_deBruijn32tab), ("math/bits.deBruijn64tab", laid_math_bits_deBruijn64tab), ("internal/strconv.uint64pow10", laid_internal_strconv_uint64pow10)], narrowed := true }
def CodeMayUptoSaid : Prop := codeMayUptoRow.holds Tryd.pinned (OpenSpec.upto codeMaySpec)

/-- 'weftwaylaw17.CodeOne', WHERE WHAT IT READS IS OF BULK AT MOST 1048576: true; the input reads as it did. -/
def codeOneUptoRow : OpenClaim := { program := "ytjobleemmjjocaadoor", sum := "edfcc3a28d52b9279bd71203014f74c0be39c3514964a31ed8300da2d78eaffe", func := "weftway/weftwaylaw17.CodeOne", spec := "codeOne", inPlace := ["internal/abi.NoEscape", "internal/bytealg.MakeNoZero"], unfollowed := true, recurses := true, named := ["internal/strconv.uint64pow10", "math/bits.deBruijn32tab", "math/bits.deBruijn64tab"], loops := true, apart := false, laid := [("math/bits.deBruijn32tab", laid_math_bits_deBruijn32tab), ("math/bits.deBruijn64tab", laid_math_bits_deBruijn64tab), ("internal/strconv.uint64pow10", laid_internal_strconv_uint64pow10)], narrowed := true }
def CodeOneUptoSaid : Prop := codeOneUptoRow.holds Tryd.pinned (OpenSpec.upto codeOneSpec)

/-- 'weftwaylaw17.CodeShorter', WHERE WHAT IT READS IS OF BULK AT MOST 1048576: true; the input reads as it did. -/
def codeShorterUptoRow : OpenClaim := { program := "ytjobleemmjjocaadoor", sum := "edfcc3a28d52b9279bd71203014f74c0be39c3514964a31ed8300da2d78eaffe", func := "weftway/weftwaylaw17.CodeShorter", spec := "codeShorter", inPlace := ["internal/abi.NoEscape", "internal/bytealg.MakeNoZero"], unfollowed := true, recurses := true, named := ["internal/strconv.uint64pow10", "math/bits.deBruijn32tab", "math/bits.deBruijn64tab"], loops := true, apart := false, laid := [("math/bits.deBruijn32tab", laid_math_bits_deBruijn32tab), ("math/bits.deBruijn64tab", laid_math_bits_deBruijn64tab), ("internal/strconv.uint64pow10", laid_internal_strconv_uint64pow10)], narrowed := true }
def CodeShorterUptoSaid : Prop := codeShorterUptoRow.holds Tryd.pinned (OpenSpec.upto codeShorterSpec)

end Rows
end Go.Proofs.YtjobleemmjjocaaDoor
