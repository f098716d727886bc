/-
  NARROWER THAN 'FOR EVERY INPUT', by the rows' own cells (each row's printed sentence says how): KrootRuns: laid · KrootQuiet: laid · KrootTaken: laid · KquatRuns: laid · KquatQuiet: laid · KturnRuns: laid · KturnQuiet: laid · KturnTaken: laid.
  DERIVED. THE GIVEN ROWS OF THIS SEAT. 8 by the template 'for every input the law returns true; each argument reads behind the call as it read before'; 0 by the template 'total and deterministic' (their statements: YtakkofepcbkbkaaGreatDoorTotals.lean).
  GIVEN WITH THE SEED: the statements are not yours to turn. If you find one false, say at which input.
  Laid BY PROGRAM, IN A SANDBOX (cutbox-rows.mjs): the forced cells as the released guide's own fill.sh prints them over the translation 0a45f8c4dee5bdd4… (all of the seat's roots in one cut). By AI agents, Wed Nov 11 2026. No macro, syntax, notation, axiom, sorry.
-/
import Derived.Test.YtakkofepcbkbkaaGreatDoorChecked
import GoSem.PinnedTables
import GoSem.Claim
import GoSem.ClaimJoined
import GoSem.ClaimMapViews
import Derived.JoinedTies
import Derived.KernelRfl
namespace Go.Proofs.YtakkofepcbkbkaaGreatDoor
/- THE CELL 'sum', in the pinned program and in every row, IS THE sha256 OF THE DUMP (.gsa) THAT YtakkofepcbkbkaaGreatDoorProg.lean LOADS. Nothing in Lean hashes anything: it is a label: what it is worth is what the hold of that sum in a sandbox is worth. -/
noncomputable def Tryz.pinned : Pinned := { name := "ytakkofepcbkbkaagreatdoor", sum := "0a45f8c4dee5bdd4e4caaddf0fd197724208d802ad85034c6cb3594744fa3f99", checked := Tryz.checked }
namespace Rows
def none {H : Type} : Left H := { results := [], args := [] }

/- WHAT THE LISTED PACKAGE-LEVEL VARIABLES READ AS WHEN THE CALL BEGINS. Each datum BY PROGRAM (the guide's laid-datum.mjs) off the statement by which the dump's own 'gosem.cut.vars' lays the variable. In a bare row this is a premise. The card (YtakkofepcbkbkaaGreatDoorCards.lean) ties it to the program's text. -/
def laid_math_bits_deBruijn32tab {H : Type} : DataW H := .agg [.lit (.int .u8 0), .lit (.int .u8 1), .lit (.int .u8 28), .lit (.int .u8 2), .lit (.int .u8 29), .lit (.int .u8 14), .lit (.int .u8 24), .lit (.int .u8 3), .lit (.int .u8 30), .lit (.int .u8 22), .lit (.int .u8 20), .lit (.int .u8 15), .lit (.int .u8 25), .lit (.int .u8 17), .lit (.int .u8 4), .lit (.int .u8 8), .lit (.int .u8 31), .lit (.int .u8 27), .lit (.int .u8 13), .lit (.int .u8 23), .lit (.int .u8 21), .lit (.int .u8 19), .lit (.int .u8 16), .lit (.int .u8 7), .lit (.int .u8 26), .lit (.int .u8 12), .lit (.int .u8 18), .lit (.int .u8 6), .lit (.int .u8 11), .lit (.int .u8 5), .lit (.int .u8 10), .lit (.int .u8 9)]
def laid_math_bits_deBruijn64tab {H : Type} : DataW H := .agg [.lit (.int .u8 0), .lit (.int .u8 1), .lit (.int .u8 56), .lit (.int .u8 2), .lit (.int .u8 57), .lit (.int .u8 49), .lit (.int .u8 28), .lit (.int .u8 3), .lit (.int .u8 61), .lit (.int .u8 58), .lit (.int .u8 42), .lit (.int .u8 50), .lit (.int .u8 38), .lit (.int .u8 29), .lit (.int .u8 17), .lit (.int .u8 4), .lit (.int .u8 62), .lit (.int .u8 47), .lit (.int .u8 59), .lit (.int .u8 36), .lit (.int .u8 45), .lit (.int .u8 43), .lit (.int .u8 51), .lit (.int .u8 22), .lit (.int .u8 53), .lit (.int .u8 39), .lit (.int .u8 33), .lit (.int .u8 30), .lit (.int .u8 24), .lit (.int .u8 18), .lit (.int .u8 12), .lit (.int .u8 5), .lit (.int .u8 63), .lit (.int .u8 55), .lit (.int .u8 48), .lit (.int .u8 27), .lit (.int .u8 60), .lit (.int .u8 41), .lit (.int .u8 37), .lit (.int .u8 16), .lit (.int .u8 46), .lit (.int .u8 35), .lit (.int .u8 44), .lit (.int .u8 21), .lit (.int .u8 52), .lit (.int .u8 32), .lit (.int .u8 23), .lit (.int .u8 11), .lit (.int .u8 54), .lit (.int .u8 26), .lit (.int .u8 40), .lit (.int .u8 15), .lit (.int .u8 34), .lit (.int .u8 20), .lit (.int .u8 31), .lit (.int .u8 10), .lit (.int .u8 25), .lit (.int .u8 14), .lit (.int .u8 19), .lit (.int .u8 9), .lit (.int .u8 13), .lit (.int .u8 8), .lit (.int .u8 7), .lit (.int .u8 6)]
def laid_internal_strconv_uint64pow10 {H : Type} : DataW H := .agg [.lit (.int .u64 1), .lit (.int .u64 10), .lit (.int .u64 100), .lit (.int .u64 1000), .lit (.int .u64 10000), .lit (.int .u64 100000), .lit (.int .u64 1000000), .lit (.int .u64 10000000), .lit (.int .u64 100000000), .lit (.int .u64 1000000000), .lit (.int .u64 10000000000), .lit (.int .u64 100000000000), .lit (.int .u64 1000000000000), .lit (.int .u64 10000000000000), .lit (.int .u64 100000000000000), .lit (.int .u64 1000000000000000), .lit (.int .u64 10000000000000000), .lit (.int .u64 100000000000000000), .lit (.int .u64 1000000000000000000), .lit (.int .u64 10000000000000000000)]
def laid_unicode_utf8_acceptRanges {H : Type} : DataW H := .agg [.agg [.lit (.int .u8 128), .lit (.int .u8 191)], .agg [.lit (.int .u8 160), .lit (.int .u8 191)], .agg [.lit (.int .u8 128), .lit (.int .u8 159)], .agg [.lit (.int .u8 144), .lit (.int .u8 191)], .agg [.lit (.int .u8 128), .lit (.int .u8 143)], .agg [.lit (.int .u8 0), .lit (.int .u8 0)], .agg [.lit (.int .u8 0), .lit (.int .u8 0)], .agg [.lit (.int .u8 0), .lit (.int .u8 0)], .agg [.lit (.int .u8 0), .lit (.int .u8 0)], .agg [.lit (.int .u8 0), .lit (.int .u8 0)], .agg [.lit (.int .u8 0), .lit (.int .u8 0)], .agg [.lit (.int .u8 0), .lit (.int .u8 0)], .agg [.lit (.int .u8 0), .lit (.int .u8 0)], .agg [.lit (.int .u8 0), .lit (.int .u8 0)], .agg [.lit (.int .u8 0), .lit (.int .u8 0)], .agg [.lit (.int .u8 0), .lit (.int .u8 0)]]
def laid_errors_errorType {H : Type} : DataW H := .iface "internal/reflectlite.rtype" (.agg [.ptr (.lit (.string [101, 114, 114, 111, 114]))])
def laid_astrolabe_ops_costs {H : Type} : DataW H := .agg [.lit (.int .i64 1), .lit (.int .i64 1), .lit (.int .i64 1), .lit (.int .i64 1), .lit (.int .i64 1), .lit (.int .i64 1), .lit (.int .i64 1), .lit (.int .i64 1), .lit (.int .i64 1), .lit (.int .i64 1), .lit (.int .i64 1), .lit (.int .i64 1), .lit (.int .i64 1), .lit (.int .i64 1), .lit (.int .i64 1), .lit (.int .i64 1), .lit (.int .i64 1), .lit (.int .i64 3), .lit (.int .i64 3), .lit (.int .i64 3), .lit (.int .i64 3), .lit (.int .i64 2), .lit (.int .i64 2), .lit (.int .i64 1), .lit (.int .i64 1), .lit (.int .i64 1), .lit (.int .i64 1), .lit (.int .i64 1), .lit (.int .i64 1), .lit (.int .i64 1), .lit (.int .i64 1), .lit (.int .i64 1), .lit (.int .i64 1), .lit (.int .i64 2), .lit (.int .i64 2), .lit (.int .i64 1), .lit (.int .i64 1), .lit (.int .i64 1), .lit (.int .i64 3), .lit (.int .i64 3), .lit (.int .i64 3), .lit (.int .i64 1), .lit (.int .i64 1)]
/-- One of Go's own tables, pinned by name: the form's constant. -/
def laid_unicode_utf8_first : DataW Unit := Go.Pinned.utf8First

/-- 'astrolabelaw27.KrootRuns': WHATEVER THE INPUT: true; the input reads as it did. -/
def krootRunsSpec : ChangeSpec := { name := "krootRuns", fn := fun _ => fun
  | [d] => { results := [.lit (.bool true)], args := [d] }
  | _ => none }
def krootRunsRow : OpenClaim := { program := "ytakkofepcbkbkaagreatdoor", sum := "0a45f8c4dee5bdd4e4caaddf0fd197724208d802ad85034c6cb3594744fa3f99", func := "astrolabe/astrolabelaw27.KrootRuns", spec := "krootRuns", inPlace := ["internal/bytealg.IndexByteString", "internal/bytealg.IndexString", "internal/reflectlite.ValueOf", "(internal/reflectlite.Value).Type", "(internal/reflectlite.Value).IsNil", "internal/reflectlite.TypeOf", "(internal/reflectlite.Value).Elem", "(internal/reflectlite.Value).Set"], unfollowed := true, recurses := true, named := ["internal/strconv.uint64pow10", "math/bits.deBruijn32tab", "math/bits.deBruijn64tab", "internal/bytealg.MaxLen", "unicode/utf8.first", "unicode/utf8.acceptRanges", "errors.errorType", "astrolabe/ops.costs"], apart := false, laid := [("math/bits.deBruijn32tab", laid_math_bits_deBruijn32tab), ("math/bits.deBruijn64tab", laid_math_bits_deBruijn64tab), ("internal/strconv.uint64pow10", laid_internal_strconv_uint64pow10), ("unicode/utf8.acceptRanges", laid_unicode_utf8_acceptRanges), ("errors.errorType", laid_errors_errorType), ("astrolabe/ops.costs", laid_astrolabe_ops_costs), ("unicode/utf8.first", laid_unicode_utf8_first)] }
def KrootRunsSaid : Prop := krootRunsRow.holds Tryz.pinned (OpenSpec.ofChange krootRunsSpec)

/-- ITS FALSE NEIGHBOUR: 'it returns false'. Refute it at one input. -/
def krootRunsWrong : ChangeSpec := { name := "krootRuns", fn := fun _ => fun
  | [d] => { results := [.lit (.bool false)], args := [d] }
  | _ => none }
def KrootRunsWrongFalsely : Prop := krootRunsRow.holds Tryz.pinned (OpenSpec.ofChange krootRunsWrong)

/-- 'astrolabelaw27.KrootQuiet': WHATEVER THE INPUT: true; the input reads as it did. -/
def krootQuietSpec : ChangeSpec := { name := "krootQuiet", fn := fun _ => fun
  | [d1, d2] => { results := [.lit (.bool true)], args := [d1, d2] }
  | _ => none }
def krootQuietRow : OpenClaim := { program := "ytakkofepcbkbkaagreatdoor", sum := "0a45f8c4dee5bdd4e4caaddf0fd197724208d802ad85034c6cb3594744fa3f99", func := "astrolabe/astrolabelaw27.KrootQuiet", spec := "krootQuiet", inPlace := ["internal/bytealg.IndexByteString", "internal/bytealg.IndexString", "internal/reflectlite.ValueOf", "(internal/reflectlite.Value).Type", "(internal/reflectlite.Value).IsNil", "internal/reflectlite.TypeOf", "(internal/reflectlite.Value).Elem", "(internal/reflectlite.Value).Set"], unfollowed := true, recurses := true, named := ["internal/strconv.uint64pow10", "math/bits.deBruijn32tab", "math/bits.deBruijn64tab", "internal/bytealg.MaxLen", "unicode/utf8.first", "unicode/utf8.acceptRanges", "errors.errorType", "astrolabe/ops.costs"], apart := false, laid := [("math/bits.deBruijn32tab", laid_math_bits_deBruijn32tab), ("math/bits.deBruijn64tab", laid_math_bits_deBruijn64tab), ("internal/strconv.uint64pow10", laid_internal_strconv_uint64pow10), ("unicode/utf8.acceptRanges", laid_unicode_utf8_acceptRanges), ("errors.errorType", laid_errors_errorType), ("astrolabe/ops.costs", laid_astrolabe_ops_costs), ("unicode/utf8.first", laid_unicode_utf8_first)] }
def KrootQuietSaid : Prop := krootQuietRow.holds Tryz.pinned (OpenSpec.ofChange krootQuietSpec)

/-- ITS FALSE NEIGHBOUR: 'it returns false'. Refute it at one input. -/
def krootQuietWrong : ChangeSpec := { name := "krootQuiet", fn := fun _ => fun
  | [d1, d2] => { results := [.lit (.bool false)], args := [d1, d2] }
  | _ => none }
def KrootQuietWrongFalsely : Prop := krootQuietRow.holds Tryz.pinned (OpenSpec.ofChange krootQuietWrong)

/-- 'astrolabelaw27.KrootTaken': WHATEVER THE INPUT: true; the input reads as it did. -/
def krootTakenSpec : ChangeSpec := { name := "krootTaken", fn := fun _ => fun
  | [d] => { results := [.lit (.bool true)], args := [d] }
  | _ => none }
def krootTakenRow : OpenClaim := { program := "ytakkofepcbkbkaagreatdoor", sum := "0a45f8c4dee5bdd4e4caaddf0fd197724208d802ad85034c6cb3594744fa3f99", func := "astrolabe/astrolabelaw27.KrootTaken", spec := "krootTaken", inPlace := ["internal/bytealg.IndexByteString", "internal/bytealg.IndexString", "internal/reflectlite.ValueOf", "(internal/reflectlite.Value).Type", "(internal/reflectlite.Value).IsNil", "internal/reflectlite.TypeOf", "(internal/reflectlite.Value).Elem", "(internal/reflectlite.Value).Set"], unfollowed := true, recurses := true, named := ["internal/strconv.uint64pow10", "math/bits.deBruijn32tab", "math/bits.deBruijn64tab", "internal/bytealg.MaxLen", "unicode/utf8.first", "unicode/utf8.acceptRanges", "errors.errorType", "astrolabe/ops.costs"], apart := false, laid := [("math/bits.deBruijn32tab", laid_math_bits_deBruijn32tab), ("math/bits.deBruijn64tab", laid_math_bits_deBruijn64tab), ("internal/strconv.uint64pow10", laid_internal_strconv_uint64pow10), ("unicode/utf8.acceptRanges", laid_unicode_utf8_acceptRanges), ("errors.errorType", laid_errors_errorType), ("astrolabe/ops.costs", laid_astrolabe_ops_costs), ("unicode/utf8.first", laid_unicode_utf8_first)] }
def KrootTakenSaid : Prop := krootTakenRow.holds Tryz.pinned (OpenSpec.ofChange krootTakenSpec)

/-- ITS FALSE NEIGHBOUR: 'it returns false'. Refute it at one input. -/
def krootTakenWrong : ChangeSpec := { name := "krootTaken", fn := fun _ => fun
  | [d] => { results := [.lit (.bool false)], args := [d] }
  | _ => none }
def KrootTakenWrongFalsely : Prop := krootTakenRow.holds Tryz.pinned (OpenSpec.ofChange krootTakenWrong)

/-- 'astrolabelaw29.KquatRuns': WHATEVER THE INPUT: true; the input reads as it did. -/
def kquatRunsSpec : ChangeSpec := { name := "kquatRuns", fn := fun _ => fun
  | [d1, d2] => { results := [.lit (.bool true)], args := [d1, d2] }
  | _ => none }
def kquatRunsRow : OpenClaim := { program := "ytakkofepcbkbkaagreatdoor", sum := "0a45f8c4dee5bdd4e4caaddf0fd197724208d802ad85034c6cb3594744fa3f99", func := "astrolabe/astrolabelaw29.KquatRuns", spec := "kquatRuns", inPlace := ["internal/bytealg.IndexByteString", "internal/bytealg.IndexString", "internal/reflectlite.ValueOf", "(internal/reflectlite.Value).Type", "(internal/reflectlite.Value).IsNil", "internal/reflectlite.TypeOf", "(internal/reflectlite.Value).Elem", "(internal/reflectlite.Value).Set"], unfollowed := true, recurses := true, named := ["internal/strconv.uint64pow10", "math/bits.deBruijn32tab", "math/bits.deBruijn64tab", "internal/bytealg.MaxLen", "unicode/utf8.first", "unicode/utf8.acceptRanges", "errors.errorType", "astrolabe/ops.costs"], apart := false, laid := [("math/bits.deBruijn32tab", laid_math_bits_deBruijn32tab), ("math/bits.deBruijn64tab", laid_math_bits_deBruijn64tab), ("internal/strconv.uint64pow10", laid_internal_strconv_uint64pow10), ("unicode/utf8.acceptRanges", laid_unicode_utf8_acceptRanges), ("errors.errorType", laid_errors_errorType), ("astrolabe/ops.costs", laid_astrolabe_ops_costs), ("unicode/utf8.first", laid_unicode_utf8_first)] }
def KquatRunsSaid : Prop := kquatRunsRow.holds Tryz.pinned (OpenSpec.ofChange kquatRunsSpec)

/-- ITS FALSE NEIGHBOUR: 'it returns false'. Refute it at one input. -/
def kquatRunsWrong : ChangeSpec := { name := "kquatRuns", fn := fun _ => fun
  | [d1, d2] => { results := [.lit (.bool false)], args := [d1, d2] }
  | _ => none }
def KquatRunsWrongFalsely : Prop := kquatRunsRow.holds Tryz.pinned (OpenSpec.ofChange kquatRunsWrong)

/-- 'astrolabelaw29.KquatQuiet': WHATEVER THE INPUT: true; the input reads as it did. -/
def kquatQuietSpec : ChangeSpec := { name := "kquatQuiet", fn := fun _ => fun
  | [d1, d2, d3] => { results := [.lit (.bool true)], args := [d1, d2, d3] }
  | _ => none }
def kquatQuietRow : OpenClaim := { program := "ytakkofepcbkbkaagreatdoor", sum := "0a45f8c4dee5bdd4e4caaddf0fd197724208d802ad85034c6cb3594744fa3f99", func := "astrolabe/astrolabelaw29.KquatQuiet", spec := "kquatQuiet", inPlace := ["internal/bytealg.IndexByteString", "internal/bytealg.IndexString", "internal/reflectlite.ValueOf", "(internal/reflectlite.Value).Type", "(internal/reflectlite.Value).IsNil", "internal/reflectlite.TypeOf", "(internal/reflectlite.Value).Elem", "(internal/reflectlite.Value).Set"], unfollowed := true, recurses := true, named := ["internal/strconv.uint64pow10", "math/bits.deBruijn32tab", "math/bits.deBruijn64tab", "internal/bytealg.MaxLen", "unicode/utf8.first", "unicode/utf8.acceptRanges", "errors.errorType", "astrolabe/ops.costs"], apart := false, laid := [("math/bits.deBruijn32tab", laid_math_bits_deBruijn32tab), ("math/bits.deBruijn64tab", laid_math_bits_deBruijn64tab), ("internal/strconv.uint64pow10", laid_internal_strconv_uint64pow10), ("unicode/utf8.acceptRanges", laid_unicode_utf8_acceptRanges), ("errors.errorType", laid_errors_errorType), ("astrolabe/ops.costs", laid_astrolabe_ops_costs), ("unicode/utf8.first", laid_unicode_utf8_first)] }
def KquatQuietSaid : Prop := kquatQuietRow.holds Tryz.pinned (OpenSpec.ofChange kquatQuietSpec)

/-- ITS FALSE NEIGHBOUR: 'it returns false'. Refute it at one input. -/
def kquatQuietWrong : ChangeSpec := { name := "kquatQuiet", fn := fun _ => fun
  | [d1, d2, d3] => { results := [.lit (.bool false)], args := [d1, d2, d3] }
  | _ => none }
def KquatQuietWrongFalsely : Prop := kquatQuietRow.holds Tryz.pinned (OpenSpec.ofChange kquatQuietWrong)

/-- 'astrolabelaw28.KturnRuns': WHATEVER THE INPUT: true; the input reads as it did. -/
def kturnRunsSpec : ChangeSpec := { name := "kturnRuns", fn := fun _ => fun
  | [d1, d2] => { results := [.lit (.bool true)], args := [d1, d2] }
  | _ => none }
def kturnRunsRow : OpenClaim := { program := "ytakkofepcbkbkaagreatdoor", sum := "0a45f8c4dee5bdd4e4caaddf0fd197724208d802ad85034c6cb3594744fa3f99", func := "astrolabe/astrolabelaw28.KturnRuns", spec := "kturnRuns", inPlace := ["internal/bytealg.IndexByteString", "internal/bytealg.IndexString", "internal/reflectlite.ValueOf", "(internal/reflectlite.Value).Type", "(internal/reflectlite.Value).IsNil", "internal/reflectlite.TypeOf", "(internal/reflectlite.Value).Elem", "(internal/reflectlite.Value).Set"], unfollowed := true, recurses := true, named := ["internal/strconv.uint64pow10", "math/bits.deBruijn32tab", "math/bits.deBruijn64tab", "internal/bytealg.MaxLen", "unicode/utf8.first", "unicode/utf8.acceptRanges", "errors.errorType", "astrolabe/ops.costs"], apart := false, laid := [("math/bits.deBruijn32tab", laid_math_bits_deBruijn32tab), ("math/bits.deBruijn64tab", laid_math_bits_deBruijn64tab), ("internal/strconv.uint64pow10", laid_internal_strconv_uint64pow10), ("unicode/utf8.acceptRanges", laid_unicode_utf8_acceptRanges), ("errors.errorType", laid_errors_errorType), ("astrolabe/ops.costs", laid_astrolabe_ops_costs), ("unicode/utf8.first", laid_unicode_utf8_first)] }
def KturnRunsSaid : Prop := kturnRunsRow.holds Tryz.pinned (OpenSpec.ofChange kturnRunsSpec)

/-- ITS FALSE NEIGHBOUR: 'it returns false'. Refute it at one input. -/
def kturnRunsWrong : ChangeSpec := { name := "kturnRuns", fn := fun _ => fun
  | [d1, d2] => { results := [.lit (.bool false)], args := [d1, d2] }
  | _ => none }
def KturnRunsWrongFalsely : Prop := kturnRunsRow.holds Tryz.pinned (OpenSpec.ofChange kturnRunsWrong)

/-- 'astrolabelaw28.KturnQuiet': WHATEVER THE INPUT: true; the input reads as it did. -/
def kturnQuietSpec : ChangeSpec := { name := "kturnQuiet", fn := fun _ => fun
  | [d1, d2, d3, d4] => { results := [.lit (.bool true)], args := [d1, d2, d3, d4] }
  | _ => none }
def kturnQuietRow : OpenClaim := { program := "ytakkofepcbkbkaagreatdoor", sum := "0a45f8c4dee5bdd4e4caaddf0fd197724208d802ad85034c6cb3594744fa3f99", func := "astrolabe/astrolabelaw28.KturnQuiet", spec := "kturnQuiet", inPlace := ["internal/bytealg.IndexByteString", "internal/bytealg.IndexString", "internal/reflectlite.ValueOf", "(internal/reflectlite.Value).Type", "(internal/reflectlite.Value).IsNil", "internal/reflectlite.TypeOf", "(internal/reflectlite.Value).Elem", "(internal/reflectlite.Value).Set"], unfollowed := true, recurses := true, named := ["internal/strconv.uint64pow10", "math/bits.deBruijn32tab", "math/bits.deBruijn64tab", "internal/bytealg.MaxLen", "unicode/utf8.first", "unicode/utf8.acceptRanges", "errors.errorType", "astrolabe/ops.costs"], apart := false, laid := [("math/bits.deBruijn32tab", laid_math_bits_deBruijn32tab), ("math/bits.deBruijn64tab", laid_math_bits_deBruijn64tab), ("internal/strconv.uint64pow10", laid_internal_strconv_uint64pow10), ("unicode/utf8.acceptRanges", laid_unicode_utf8_acceptRanges), ("errors.errorType", laid_errors_errorType), ("astrolabe/ops.costs", laid_astrolabe_ops_costs), ("unicode/utf8.first", laid_unicode_utf8_first)] }
def KturnQuietSaid : Prop := kturnQuietRow.holds Tryz.pinned (OpenSpec.ofChange kturnQuietSpec)

/-- ITS FALSE NEIGHBOUR: 'it returns false'. Refute it at one input. -/
def kturnQuietWrong : ChangeSpec := { name := "kturnQuiet", fn := fun _ => fun
  | [d1, d2, d3, d4] => { results := [.lit (.bool false)], args := [d1, d2, d3, d4] }
  | _ => none }
def KturnQuietWrongFalsely : Prop := kturnQuietRow.holds Tryz.pinned (OpenSpec.ofChange kturnQuietWrong)

/-- 'astrolabelaw28.KturnTaken': WHATEVER THE INPUT: true; the input reads as it did. -/
def kturnTakenSpec : ChangeSpec := { name := "kturnTaken", fn := fun _ => fun
  | [d1, d2] => { results := [.lit (.bool true)], args := [d1, d2] }
  | _ => none }
def kturnTakenRow : OpenClaim := { program := "ytakkofepcbkbkaagreatdoor", sum := "0a45f8c4dee5bdd4e4caaddf0fd197724208d802ad85034c6cb3594744fa3f99", func := "astrolabe/astrolabelaw28.KturnTaken", spec := "kturnTaken", inPlace := ["internal/bytealg.IndexByteString", "internal/bytealg.IndexString", "internal/reflectlite.ValueOf", "(internal/reflectlite.Value).Type", "(internal/reflectlite.Value).IsNil", "internal/reflectlite.TypeOf", "(internal/reflectlite.Value).Elem", "(internal/reflectlite.Value).Set"], unfollowed := true, recurses := true, named := ["internal/strconv.uint64pow10", "math/bits.deBruijn32tab", "math/bits.deBruijn64tab", "internal/bytealg.MaxLen", "unicode/utf8.first", "unicode/utf8.acceptRanges", "errors.errorType", "astrolabe/ops.costs"], apart := false, laid := [("math/bits.deBruijn32tab", laid_math_bits_deBruijn32tab), ("math/bits.deBruijn64tab", laid_math_bits_deBruijn64tab), ("internal/strconv.uint64pow10", laid_internal_strconv_uint64pow10), ("unicode/utf8.acceptRanges", laid_unicode_utf8_acceptRanges), ("errors.errorType", laid_errors_errorType), ("astrolabe/ops.costs", laid_astrolabe_ops_costs), ("unicode/utf8.first", laid_unicode_utf8_first)] }
def KturnTakenSaid : Prop := kturnTakenRow.holds Tryz.pinned (OpenSpec.ofChange kturnTakenSpec)

/-- ITS FALSE NEIGHBOUR: 'it returns false'. Refute it at one input. -/
def kturnTakenWrong : ChangeSpec := { name := "kturnTaken", fn := fun _ => fun
  | [d1, d2] => { results := [.lit (.bool false)], args := [d1, d2] }
  | _ => none }
def KturnTakenWrongFalsely : Prop := kturnTakenRow.holds Tryz.pinned (OpenSpec.ofChange kturnTakenWrong)

/- THE SECOND FORM. 'bulk': how many values and letters a reading holds, each counted each time it is reached (what is shared counts as often as it is met; a slice's spare places count too). A statement '..UptoSaid' is the law's where the arguments, and the package variables that the reading takes, are together of bulk at most 1048576: NARROWER than '..Said'. Prove '..Said' where nothing that the law and all that it calls make is longer than what came in: it says more and counts as full. Else prove '..UptoSaid'. A law counts once. -/
mutual
def uptoBulk {H : Type} : DataW H → Nat
  | .lit (.string bytes) => bytes.length + 1
  | .lit _ => 1
  | .nil => 1
  | .ptr d => uptoBulk d + 1
  | .slice elems spare => uptoBulkAll elems + uptoBulkAll spare + 1
  | .agg parts => uptoBulkAll parts + 1
  | .iface _ d => uptoBulk d + 1
  | .map entries => uptoBulkEntries entries + 1
  | .held _ => 1
def uptoBulkAll {H : Type} : List (DataW H) → Nat
  | [] => 0
  | d :: r => uptoBulk d + uptoBulkAll r
def uptoBulkEntries {H : Type} : List (Lit × DataW H) → Nat
  | [] => 0
  | x :: r => uptoBulkEntry x + uptoBulkEntries r
def uptoBulkEntry {H : Type} : Lit × DataW H → Nat
  | (.string bytes, d) => bytes.length + uptoBulk d + 1
  | (_, d) => uptoBulk d + 1
 end
def uptoSmall : (H : Type) → List (DataW H) → Bool := fun _ ds => decide (uptoBulkAll ds ≤ 1048576)
def OpenSpec.upto (s : _root_.Go.ChangeSpec) : _root_.Go.OpenSpec := { _root_.Go.OpenSpec.ofChange s with cond := some uptoSmall }

/-- 'astrolabelaw27.KrootRuns', WHERE WHAT IT READS IS OF BULK AT MOST 1048576: true; the input reads as it did. -/
def krootRunsUptoRow : OpenClaim := { program := "ytakkofepcbkbkaagreatdoor", sum := "0a45f8c4dee5bdd4e4caaddf0fd197724208d802ad85034c6cb3594744fa3f99", func := "astrolabe/astrolabelaw27.KrootRuns", spec := "krootRuns", inPlace := ["internal/bytealg.IndexByteString", "internal/bytealg.IndexString", "internal/reflectlite.ValueOf", "(internal/reflectlite.Value).Type", "(internal/reflectlite.Value).IsNil", "internal/reflectlite.TypeOf", "(internal/reflectlite.Value).Elem", "(internal/reflectlite.Value).Set"], unfollowed := true, recurses := true, named := ["internal/strconv.uint64pow10", "math/bits.deBruijn32tab", "math/bits.deBruijn64tab", "internal/bytealg.MaxLen", "unicode/utf8.first", "unicode/utf8.acceptRanges", "errors.errorType", "astrolabe/ops.costs"], apart := false, laid := [("math/bits.deBruijn32tab", laid_math_bits_deBruijn32tab), ("math/bits.deBruijn64tab", laid_math_bits_deBruijn64tab), ("internal/strconv.uint64pow10", laid_internal_strconv_uint64pow10), ("unicode/utf8.acceptRanges", laid_unicode_utf8_acceptRanges), ("errors.errorType", laid_errors_errorType), ("astrolabe/ops.costs", laid_astrolabe_ops_costs), ("unicode/utf8.first", laid_unicode_utf8_first)], narrowed := true }
def KrootRunsUptoSaid : Prop := krootRunsUptoRow.holds Tryz.pinned (OpenSpec.upto krootRunsSpec)

/-- 'astrolabelaw27.KrootQuiet', WHERE WHAT IT READS IS OF BULK AT MOST 1048576: true; the input reads as it did. -/
def krootQuietUptoRow : OpenClaim := { program := "ytakkofepcbkbkaagreatdoor", sum := "0a45f8c4dee5bdd4e4caaddf0fd197724208d802ad85034c6cb3594744fa3f99", func := "astrolabe/astrolabelaw27.KrootQuiet", spec := "krootQuiet", inPlace := ["internal/bytealg.IndexByteString", "internal/bytealg.IndexString", "internal/reflectlite.ValueOf", "(internal/reflectlite.Value).Type", "(internal/reflectlite.Value).IsNil", "internal/reflectlite.TypeOf", "(internal/reflectlite.Value).Elem", "(internal/reflectlite.Value).Set"], unfollowed := true, recurses := true, named := ["internal/strconv.uint64pow10", "math/bits.deBruijn32tab", "math/bits.deBruijn64tab", "internal/bytealg.MaxLen", "unicode/utf8.first", "unicode/utf8.acceptRanges", "errors.errorType", "astrolabe/ops.costs"], apart := false, laid := [("math/bits.deBruijn32tab", laid_math_bits_deBruijn32tab), ("math/bits.deBruijn64tab", laid_math_bits_deBruijn64tab), ("internal/strconv.uint64pow10", laid_internal_strconv_uint64pow10), ("unicode/utf8.acceptRanges", laid_unicode_utf8_acceptRanges), ("errors.errorType", laid_errors_errorType), ("astrolabe/ops.costs", laid_astrolabe_ops_costs), ("unicode/utf8.first", laid_unicode_utf8_first)], narrowed := true }
def KrootQuietUptoSaid : Prop := krootQuietUptoRow.holds Tryz.pinned (OpenSpec.upto krootQuietSpec)

/-- 'astrolabelaw27.KrootTaken', WHERE WHAT IT READS IS OF BULK AT MOST 1048576: true; the input reads as it did. -/
def krootTakenUptoRow : OpenClaim := { program := "ytakkofepcbkbkaagreatdoor", sum := "0a45f8c4dee5bdd4e4caaddf0fd197724208d802ad85034c6cb3594744fa3f99", func := "astrolabe/astrolabelaw27.KrootTaken", spec := "krootTaken", inPlace := ["internal/bytealg.IndexByteString", "internal/bytealg.IndexString", "internal/reflectlite.ValueOf", "(internal/reflectlite.Value).Type", "(internal/reflectlite.Value).IsNil", "internal/reflectlite.TypeOf", "(internal/reflectlite.Value).Elem", "(internal/reflectlite.Value).Set"], unfollowed := true, recurses := true, named := ["internal/strconv.uint64pow10", "math/bits.deBruijn32tab", "math/bits.deBruijn64tab", "internal/bytealg.MaxLen", "unicode/utf8.first", "unicode/utf8.acceptRanges", "errors.errorType", "astrolabe/ops.costs"], apart := false, laid := [("math/bits.deBruijn32tab", laid_math_bits_deBruijn32tab), ("math/bits.deBruijn64tab", laid_math_bits_deBruijn64tab), ("internal/strconv.uint64pow10", laid_internal_strconv_uint64pow10), ("unicode/utf8.acceptRanges", laid_unicode_utf8_acceptRanges), ("errors.errorType", laid_errors_errorType), ("astrolabe/ops.costs", laid_astrolabe_ops_costs), ("unicode/utf8.first", laid_unicode_utf8_first)], narrowed := true }
def KrootTakenUptoSaid : Prop := krootTakenUptoRow.holds Tryz.pinned (OpenSpec.upto krootTakenSpec)

/-- 'astrolabelaw29.KquatRuns', WHERE WHAT IT READS IS OF BULK AT MOST 1048576: true; the input reads as it did. -/
def kquatRunsUptoRow : OpenClaim := { program := "ytakkofepcbkbkaagreatdoor", sum := "0a45f8c4dee5bdd4e4caaddf0fd197724208d802ad85034c6cb3594744fa3f99", func := "astrolabe/astrolabelaw29.KquatRuns", spec := "kquatRuns", inPlace := ["internal/bytealg.IndexByteString", "internal/bytealg.IndexString", "internal/reflectlite.ValueOf", "(internal/reflectlite.Value).Type", "(internal/reflectlite.Value).IsNil", "internal/reflectlite.TypeOf", "(internal/reflectlite.Value).Elem", "(internal/reflectlite.Value).Set"], unfollowed := true, recurses := true, named := ["internal/strconv.uint64pow10", "math/bits.deBruijn32tab", "math/bits.deBruijn64tab", "internal/bytealg.MaxLen", "unicode/utf8.first", "unicode/utf8.acceptRanges", "errors.errorType", "astrolabe/ops.costs"], apart := false, laid := [("math/bits.deBruijn32tab", laid_math_bits_deBruijn32tab), ("math/bits.deBruijn64tab", laid_math_bits_deBruijn64tab), ("internal/strconv.uint64pow10", laid_internal_strconv_uint64pow10), ("unicode/utf8.acceptRanges", laid_unicode_utf8_acceptRanges), ("errors.errorType", laid_errors_errorType), ("astrolabe/ops.costs", laid_astrolabe_ops_costs), ("unicode/utf8.first", laid_unicode_utf8_first)], narrowed := true }
def KquatRunsUptoSaid : Prop := kquatRunsUptoRow.holds Tryz.pinned (OpenSpec.upto kquatRunsSpec)

/-- 'astrolabelaw29.KquatQuiet', WHERE WHAT IT READS IS OF BULK AT MOST 1048576: true; the input reads as it did. -/
def kquatQuietUptoRow : OpenClaim := { program := "ytakkofepcbkbkaagreatdoor", sum := "0a45f8c4dee5bdd4e4caaddf0fd197724208d802ad85034c6cb3594744fa3f99", func := "astrolabe/astrolabelaw29.KquatQuiet", spec := "kquatQuiet", inPlace := ["internal/bytealg.IndexByteString", "internal/bytealg.IndexString", "internal/reflectlite.ValueOf", "(internal/reflectlite.Value).Type", "(internal/reflectlite.Value).IsNil", "internal/reflectlite.TypeOf", "(internal/reflectlite.Value).Elem", "(internal/reflectlite.Value).Set"], unfollowed := true, recurses := true, named := ["internal/strconv.uint64pow10", "math/bits.deBruijn32tab", "math/bits.deBruijn64tab", "internal/bytealg.MaxLen", "unicode/utf8.first", "unicode/utf8.acceptRanges", "errors.errorType", "astrolabe/ops.costs"], apart := false, laid := [("math/bits.deBruijn32tab", laid_math_bits_deBruijn32tab), ("math/bits.deBruijn64tab", laid_math_bits_deBruijn64tab), ("internal/strconv.uint64pow10", laid_internal_strconv_uint64pow10), ("unicode/utf8.acceptRanges", laid_unicode_utf8_acceptRanges), ("errors.errorType", laid_errors_errorType), ("astrolabe/ops.costs", laid_astrolabe_ops_costs), ("unicode/utf8.first", laid_unicode_utf8_first)], narrowed := true }
def KquatQuietUptoSaid : Prop := kquatQuietUptoRow.holds Tryz.pinned (OpenSpec.upto kquatQuietSpec)

/-- 'astrolabelaw28.KturnRuns', WHERE WHAT IT READS IS OF BULK AT MOST 1048576: true; the input reads as it did. -/
def kturnRunsUptoRow : OpenClaim := { program := "ytakkofepcbkbkaagreatdoor", sum := "0a45f8c4dee5bdd4e4caaddf0fd197724208d802ad85034c6cb3594744fa3f99", func := "astrolabe/astrolabelaw28.KturnRuns", spec := "kturnRuns", inPlace := ["internal/bytealg.IndexByteString", "internal/bytealg.IndexString", "internal/reflectlite.ValueOf", "(internal/reflectlite.Value).Type", "(internal/reflectlite.Value).IsNil", "internal/reflectlite.TypeOf", "(internal/reflectlite.Value).Elem", "(internal/reflectlite.Value).Set"], unfollowed := true, recurses := true, named := ["internal/strconv.uint64pow10", "math/bits.deBruijn32tab", "math/bits.deBruijn64tab", "internal/bytealg.MaxLen", "unicode/utf8.first", "unicode/utf8.acceptRanges", "errors.errorType", "astrolabe/ops.costs"], apart := false, laid := [("math/bits.deBruijn32tab", laid_math_bits_deBruijn32tab), ("math/bits.deBruijn64tab", laid_math_bits_deBruijn64tab), ("internal/strconv.uint64pow10", laid_internal_strconv_uint64pow10), ("unicode/utf8.acceptRanges", laid_unicode_utf8_acceptRanges), ("errors.errorType", laid_errors_errorType), ("astrolabe/ops.costs", laid_astrolabe_ops_costs), ("unicode/utf8.first", laid_unicode_utf8_first)], narrowed := true }
def KturnRunsUptoSaid : Prop := kturnRunsUptoRow.holds Tryz.pinned (OpenSpec.upto kturnRunsSpec)

/-- 'astrolabelaw28.KturnQuiet', WHERE WHAT IT READS IS OF BULK AT MOST 1048576: true; the input reads as it did. -/
def kturnQuietUptoRow : OpenClaim := { program := "ytakkofepcbkbkaagreatdoor", sum := "0a45f8c4dee5bdd4e4caaddf0fd197724208d802ad85034c6cb3594744fa3f99", func := "astrolabe/astrolabelaw28.KturnQuiet", spec := "kturnQuiet", inPlace := ["internal/bytealg.IndexByteString", "internal/bytealg.IndexString", "internal/reflectlite.ValueOf", "(internal/reflectlite.Value).Type", "(internal/reflectlite.Value).IsNil", "internal/reflectlite.TypeOf", "(internal/reflectlite.Value).Elem", "(internal/reflectlite.Value).Set"], unfollowed := true, recurses := true, named := ["internal/strconv.uint64pow10", "math/bits.deBruijn32tab", "math/bits.deBruijn64tab", "internal/bytealg.MaxLen", "unicode/utf8.first", "unicode/utf8.acceptRanges", "errors.errorType", "astrolabe/ops.costs"], apart := false, laid := [("math/bits.deBruijn32tab", laid_math_bits_deBruijn32tab), ("math/bits.deBruijn64tab", laid_math_bits_deBruijn64tab), ("internal/strconv.uint64pow10", laid_internal_strconv_uint64pow10), ("unicode/utf8.acceptRanges", laid_unicode_utf8_acceptRanges), ("errors.errorType", laid_errors_errorType), ("astrolabe/ops.costs", laid_astrolabe_ops_costs), ("unicode/utf8.first", laid_unicode_utf8_first)], narrowed := true }
def KturnQuietUptoSaid : Prop := kturnQuietUptoRow.holds Tryz.pinned (OpenSpec.upto kturnQuietSpec)

/-- 'astrolabelaw28.KturnTaken', WHERE WHAT IT READS IS OF BULK AT MOST 1048576: true; the input reads as it did. -/
def kturnTakenUptoRow : OpenClaim := { program := "ytakkofepcbkbkaagreatdoor", sum := "0a45f8c4dee5bdd4e4caaddf0fd197724208d802ad85034c6cb3594744fa3f99", func := "astrolabe/astrolabelaw28.KturnTaken", spec := "kturnTaken", inPlace := ["internal/bytealg.IndexByteString", "internal/bytealg.IndexString", "internal/reflectlite.ValueOf", "(internal/reflectlite.Value).Type", "(internal/reflectlite.Value).IsNil", "internal/reflectlite.TypeOf", "(internal/reflectlite.Value).Elem", "(internal/reflectlite.Value).Set"], unfollowed := true, recurses := true, named := ["internal/strconv.uint64pow10", "math/bits.deBruijn32tab", "math/bits.deBruijn64tab", "internal/bytealg.MaxLen", "unicode/utf8.first", "unicode/utf8.acceptRanges", "errors.errorType", "astrolabe/ops.costs"], apart := false, laid := [("math/bits.deBruijn32tab", laid_math_bits_deBruijn32tab), ("math/bits.deBruijn64tab", laid_math_bits_deBruijn64tab), ("internal/strconv.uint64pow10", laid_internal_strconv_uint64pow10), ("unicode/utf8.acceptRanges", laid_unicode_utf8_acceptRanges), ("errors.errorType", laid_errors_errorType), ("astrolabe/ops.costs", laid_astrolabe_ops_costs), ("unicode/utf8.first", laid_unicode_utf8_first)], narrowed := true }
def KturnTakenUptoSaid : Prop := kturnTakenUptoRow.holds Tryz.pinned (OpenSpec.upto kturnTakenSpec)

end Rows
end Go.Proofs.YtakkofepcbkbkaaGreatDoor
