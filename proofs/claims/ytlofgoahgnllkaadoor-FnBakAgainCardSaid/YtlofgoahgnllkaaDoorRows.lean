/-
  NARROWER THAN 'FOR EVERY INPUT', by the rows' own cells (each row's printed sentence says how): FnExactBakLine: ifaces, laid · FnBakAgain: ifaces, laid · FnBakLine: ifaces, laid · FnExactEndText: laid · FnExactLinPort: laid · FnExactEndRead: ifaces, laid · FnExactLinBox: ifaces, laid · FnExactLinSays: ifaces, laid · FnLinShort: ifaces, laid · FnEndRead: ifaces, laid · FnEndText: ifaces, laid · FnLinBox: ifaces, laid · FnLinSays: ifaces, laid.
  DERIVED. THE GIVEN ROWS OF THIS SEAT. 13 by the template 'for every input the law returns true; each argument reads behind the call as it read before'; 0 by the template 'total and deterministic' (their statements: YtlofgoahgnllkaaDoorTotals.lean).
  GIVEN WITH THE SEED: the statements are not yours to turn. If you find one false, say at which input.
  Laid BY PROGRAM, IN A SANDBOX (cutbox-rows.mjs): the forced cells as the released guide's own fill.sh prints them over the translation 0eccbd1d88a5616c… (all of the seat's roots in one cut). By AI agents, Wed Nov 11 2026. No macro, syntax, notation, axiom, sorry.
-/
import Derived.Test.YtlofgoahgnllkaaDoorChecked
import GoSem.Claim
import GoSem.ClaimJoined
import GoSem.ClaimMapViews
import Derived.JoinedTies
import Derived.KernelRfl
namespace Go.Proofs.YtlofgoahgnllkaaDoor
/- THE CELL 'sum', in the pinned program and in every row, IS THE sha256 OF THE DUMP (.gsa) THAT YtlofgoahgnllkaaDoorProg.lean LOADS. Nothing in Lean hashes anything: it is a label: what it is worth is what the hold of that sum in a sandbox is worth. -/
noncomputable def Tryd.pinned : Pinned := { name := "ytlofgoahgnllkaadoor", sum := "0eccbd1d88a5616c0ac5d4f11b620eff92fa1ac7654f31b31f4037853a40ccbf", checked := Tryd.checked }
namespace Rows
def none {H : Type} : Left H := { results := [], args := [] }

/- WHAT THE LISTED PACKAGE-LEVEL VARIABLES READ AS WHEN THE CALL BEGINS. Each datum BY PROGRAM (the guide's laid-datum.mjs) off the statement by which the dump's own 'gosem.cut.vars' lays the variable. In a bare row this is a premise. The card (YtlofgoahgnllkaaDoorCards.lean) ties it to the program's text. -/
def laid_math_bits_deBruijn32tab {H : Type} : DataW H := .agg [.lit (.int .u8 0), .lit (.int .u8 1), .lit (.int .u8 28), .lit (.int .u8 2), .lit (.int .u8 29), .lit (.int .u8 14), .lit (.int .u8 24), .lit (.int .u8 3), .lit (.int .u8 30), .lit (.int .u8 22), .lit (.int .u8 20), .lit (.int .u8 15), .lit (.int .u8 25), .lit (.int .u8 17), .lit (.int .u8 4), .lit (.int .u8 8), .lit (.int .u8 31), .lit (.int .u8 27), .lit (.int .u8 13), .lit (.int .u8 23), .lit (.int .u8 21), .lit (.int .u8 19), .lit (.int .u8 16), .lit (.int .u8 7), .lit (.int .u8 26), .lit (.int .u8 12), .lit (.int .u8 18), .lit (.int .u8 6), .lit (.int .u8 11), .lit (.int .u8 5), .lit (.int .u8 10), .lit (.int .u8 9)]
def laid_math_bits_deBruijn64tab {H : Type} : DataW H := .agg [.lit (.int .u8 0), .lit (.int .u8 1), .lit (.int .u8 56), .lit (.int .u8 2), .lit (.int .u8 57), .lit (.int .u8 49), .lit (.int .u8 28), .lit (.int .u8 3), .lit (.int .u8 61), .lit (.int .u8 58), .lit (.int .u8 42), .lit (.int .u8 50), .lit (.int .u8 38), .lit (.int .u8 29), .lit (.int .u8 17), .lit (.int .u8 4), .lit (.int .u8 62), .lit (.int .u8 47), .lit (.int .u8 59), .lit (.int .u8 36), .lit (.int .u8 45), .lit (.int .u8 43), .lit (.int .u8 51), .lit (.int .u8 22), .lit (.int .u8 53), .lit (.int .u8 39), .lit (.int .u8 33), .lit (.int .u8 30), .lit (.int .u8 24), .lit (.int .u8 18), .lit (.int .u8 12), .lit (.int .u8 5), .lit (.int .u8 63), .lit (.int .u8 55), .lit (.int .u8 48), .lit (.int .u8 27), .lit (.int .u8 60), .lit (.int .u8 41), .lit (.int .u8 37), .lit (.int .u8 16), .lit (.int .u8 46), .lit (.int .u8 35), .lit (.int .u8 44), .lit (.int .u8 21), .lit (.int .u8 52), .lit (.int .u8 32), .lit (.int .u8 23), .lit (.int .u8 11), .lit (.int .u8 54), .lit (.int .u8 26), .lit (.int .u8 40), .lit (.int .u8 15), .lit (.int .u8 34), .lit (.int .u8 20), .lit (.int .u8 31), .lit (.int .u8 10), .lit (.int .u8 25), .lit (.int .u8 14), .lit (.int .u8 19), .lit (.int .u8 9), .lit (.int .u8 13), .lit (.int .u8 8), .lit (.int .u8 7), .lit (.int .u8 6)]
def laid_internal_strconv_uint64pow10 {H : Type} : DataW H := .agg [.lit (.int .u64 1), .lit (.int .u64 10), .lit (.int .u64 100), .lit (.int .u64 1000), .lit (.int .u64 10000), .lit (.int .u64 100000), .lit (.int .u64 1000000), .lit (.int .u64 10000000), .lit (.int .u64 100000000), .lit (.int .u64 1000000000), .lit (.int .u64 10000000000), .lit (.int .u64 100000000000), .lit (.int .u64 1000000000000), .lit (.int .u64 10000000000000), .lit (.int .u64 100000000000000), .lit (.int .u64 1000000000000000), .lit (.int .u64 10000000000000000), .lit (.int .u64 100000000000000000), .lit (.int .u64 1000000000000000000), .lit (.int .u64 10000000000000000000)]
def laid_strconv_ErrRange {H : Type} : DataW H := .iface "*errors.errorString" (.ptr (.agg [.lit (.string [118, 97, 108, 117, 101, 32, 111, 117, 116, 32, 111, 102, 32, 114, 97, 110, 103, 101])]))
def laid_strconv_ErrSyntax {H : Type} : DataW H := .iface "*errors.errorString" (.ptr (.agg [.lit (.string [105, 110, 118, 97, 108, 105, 100, 32, 115, 121, 110, 116, 97, 120])]))
def laid_loop_example_hatchway_impl_errEnd {H : Type} : DataW H := .iface "*errors.errorString" (.ptr (.agg [.lit (.string [110, 111, 32, 101, 110, 100])]))

/-- 'laws.FnExactBakLine': WHATEVER THE INPUT: true; the input reads as it did. -/
def fnExactBakLineSpec : ChangeSpec := { name := "fnExactBakLine", vars := ["loop.example/hatchway/impl.errEnd"], fn := fun _ => fun
  | [d1, d2, g1] => { results := [.lit (.bool true)], args := [d1, d2], vars := [g1] }
  | _ => none }
def fnExactBakLineRow : OpenClaim := { program := "ytlofgoahgnllkaadoor", sum := "0eccbd1d88a5616c0ac5d4f11b620eff92fa1ac7654f31b31f4037853a40ccbf", func := "loop.example/hatchway/laws.FnExactBakLine", spec := "fnExactBakLine", inPlace := ["internal/bytealg.IndexByteString", "internal/bytealg.IndexString"], named := ["loop.example/hatchway/impl.errEnd", "internal/bytealg.MaxLen", "strconv.ErrSyntax", "strconv.ErrRange", "internal/strconv.uint64pow10", "math/bits.deBruijn32tab", "math/bits.deBruijn64tab"], ifaces := true, plainKeys := false, apart := false, laid := [("math/bits.deBruijn32tab", laid_math_bits_deBruijn32tab), ("math/bits.deBruijn64tab", laid_math_bits_deBruijn64tab), ("internal/strconv.uint64pow10", laid_internal_strconv_uint64pow10), ("strconv.ErrRange", laid_strconv_ErrRange), ("strconv.ErrSyntax", laid_strconv_ErrSyntax), ("loop.example/hatchway/impl.errEnd", laid_loop_example_hatchway_impl_errEnd)] }
def FnExactBakLineSaid : Prop := fnExactBakLineRow.holds Tryd.pinned (OpenSpec.ofChange fnExactBakLineSpec)

/-- ITS FALSE NEIGHBOUR: 'it returns false'. Refute it at one input. -/
def fnExactBakLineWrong : ChangeSpec := { name := "fnExactBakLine", vars := ["loop.example/hatchway/impl.errEnd"], fn := fun _ => fun
  | [d1, d2, g1] => { results := [.lit (.bool false)], args := [d1, d2], vars := [g1] }
  | _ => none }
def FnExactBakLineWrongFalsely : Prop := fnExactBakLineRow.holds Tryd.pinned (OpenSpec.ofChange fnExactBakLineWrong)

/-- 'laws.FnBakAgain': WHATEVER THE INPUT: true; the input reads as it did. -/
def fnBakAgainSpec : ChangeSpec := { name := "fnBakAgain", vars := ["loop.example/hatchway/impl.errEnd"], fn := fun _ => fun
  | [d1, d2, g1] => { results := [.lit (.bool true)], args := [d1, d2], vars := [g1] }
  | _ => none }
def fnBakAgainRow : OpenClaim := { program := "ytlofgoahgnllkaadoor", sum := "0eccbd1d88a5616c0ac5d4f11b620eff92fa1ac7654f31b31f4037853a40ccbf", func := "loop.example/hatchway/laws.FnBakAgain", spec := "fnBakAgain", inPlace := ["internal/bytealg.IndexByteString", "internal/bytealg.IndexString"], named := ["loop.example/hatchway/impl.errEnd", "internal/bytealg.MaxLen", "strconv.ErrSyntax", "strconv.ErrRange", "internal/strconv.uint64pow10", "math/bits.deBruijn32tab", "math/bits.deBruijn64tab"], ifaces := true, plainKeys := false, apart := false, laid := [("math/bits.deBruijn32tab", laid_math_bits_deBruijn32tab), ("math/bits.deBruijn64tab", laid_math_bits_deBruijn64tab), ("internal/strconv.uint64pow10", laid_internal_strconv_uint64pow10), ("strconv.ErrRange", laid_strconv_ErrRange), ("strconv.ErrSyntax", laid_strconv_ErrSyntax), ("loop.example/hatchway/impl.errEnd", laid_loop_example_hatchway_impl_errEnd)] }
def FnBakAgainSaid : Prop := fnBakAgainRow.holds Tryd.pinned (OpenSpec.ofChange fnBakAgainSpec)

/-- ITS FALSE NEIGHBOUR: 'it returns false'. Refute it at one input. -/
def fnBakAgainWrong : ChangeSpec := { name := "fnBakAgain", vars := ["loop.example/hatchway/impl.errEnd"], fn := fun _ => fun
  | [d1, d2, g1] => { results := [.lit (.bool false)], args := [d1, d2], vars := [g1] }
  | _ => none }
def FnBakAgainWrongFalsely : Prop := fnBakAgainRow.holds Tryd.pinned (OpenSpec.ofChange fnBakAgainWrong)

/-- 'laws.FnBakLine': WHATEVER THE INPUT: true; the input reads as it did. -/
def fnBakLineSpec : ChangeSpec := { name := "fnBakLine", vars := ["loop.example/hatchway/impl.errEnd"], fn := fun _ => fun
  | [d, g1] => { results := [.lit (.bool true)], args := [d], vars := [g1] }
  | _ => none }
def fnBakLineRow : OpenClaim := { program := "ytlofgoahgnllkaadoor", sum := "0eccbd1d88a5616c0ac5d4f11b620eff92fa1ac7654f31b31f4037853a40ccbf", func := "loop.example/hatchway/laws.FnBakLine", spec := "fnBakLine", inPlace := ["internal/bytealg.IndexByteString", "internal/bytealg.IndexString"], named := ["loop.example/hatchway/impl.errEnd", "internal/bytealg.MaxLen", "strconv.ErrSyntax", "strconv.ErrRange", "internal/strconv.uint64pow10", "math/bits.deBruijn32tab", "math/bits.deBruijn64tab"], ifaces := true, plainKeys := false, apart := false, laid := [("math/bits.deBruijn32tab", laid_math_bits_deBruijn32tab), ("math/bits.deBruijn64tab", laid_math_bits_deBruijn64tab), ("internal/strconv.uint64pow10", laid_internal_strconv_uint64pow10), ("strconv.ErrRange", laid_strconv_ErrRange), ("strconv.ErrSyntax", laid_strconv_ErrSyntax), ("loop.example/hatchway/impl.errEnd", laid_loop_example_hatchway_impl_errEnd)] }
def FnBakLineSaid : Prop := fnBakLineRow.holds Tryd.pinned (OpenSpec.ofChange fnBakLineSpec)

/-- ITS FALSE NEIGHBOUR: 'it returns false'. Refute it at one input. -/
def fnBakLineWrong : ChangeSpec := { name := "fnBakLine", vars := ["loop.example/hatchway/impl.errEnd"], fn := fun _ => fun
  | [d, g1] => { results := [.lit (.bool false)], args := [d], vars := [g1] }
  | _ => none }
def FnBakLineWrongFalsely : Prop := fnBakLineRow.holds Tryd.pinned (OpenSpec.ofChange fnBakLineWrong)

/-- 'laws.FnExactEndText': WHATEVER THE INPUT: true; the input reads as it did. -/
def fnExactEndTextSpec : ChangeSpec := { name := "fnExactEndText", fn := fun _ => fun
  | [d] => { results := [.lit (.bool true)], args := [d] }
  | _ => none }
def fnExactEndTextRow : OpenClaim := { program := "ytlofgoahgnllkaadoor", sum := "0eccbd1d88a5616c0ac5d4f11b620eff92fa1ac7654f31b31f4037853a40ccbf", func := "loop.example/hatchway/laws.FnExactEndText", spec := "fnExactEndText", named := ["internal/strconv.uint64pow10", "math/bits.deBruijn32tab", "math/bits.deBruijn64tab"], plainKeys := false, apart := false, laid := [("math/bits.deBruijn32tab", laid_math_bits_deBruijn32tab), ("math/bits.deBruijn64tab", laid_math_bits_deBruijn64tab), ("internal/strconv.uint64pow10", laid_internal_strconv_uint64pow10)] }
def FnExactEndTextSaid : Prop := fnExactEndTextRow.holds Tryd.pinned (OpenSpec.ofChange fnExactEndTextSpec)

/-- ITS FALSE NEIGHBOUR: 'it returns false'. Refute it at one input. -/
def fnExactEndTextWrong : ChangeSpec := { name := "fnExactEndText", fn := fun _ => fun
  | [d] => { results := [.lit (.bool false)], args := [d] }
  | _ => none }
def FnExactEndTextWrongFalsely : Prop := fnExactEndTextRow.holds Tryd.pinned (OpenSpec.ofChange fnExactEndTextWrong)

/-- 'laws.FnExactLinPort': WHATEVER THE INPUT: true; the input reads as it did. -/
def fnExactLinPortSpec : ChangeSpec := { name := "fnExactLinPort", fn := fun _ => fun
  | [d] => { results := [.lit (.bool true)], args := [d] }
  | _ => none }
def fnExactLinPortRow : OpenClaim := { program := "ytlofgoahgnllkaadoor", sum := "0eccbd1d88a5616c0ac5d4f11b620eff92fa1ac7654f31b31f4037853a40ccbf", func := "loop.example/hatchway/laws.FnExactLinPort", spec := "fnExactLinPort", named := ["internal/strconv.uint64pow10", "math/bits.deBruijn32tab", "math/bits.deBruijn64tab"], plainKeys := false, apart := false, laid := [("math/bits.deBruijn32tab", laid_math_bits_deBruijn32tab), ("math/bits.deBruijn64tab", laid_math_bits_deBruijn64tab), ("internal/strconv.uint64pow10", laid_internal_strconv_uint64pow10)] }
def FnExactLinPortSaid : Prop := fnExactLinPortRow.holds Tryd.pinned (OpenSpec.ofChange fnExactLinPortSpec)

/-- ITS FALSE NEIGHBOUR: 'it returns false'. Refute it at one input. -/
def fnExactLinPortWrong : ChangeSpec := { name := "fnExactLinPort", fn := fun _ => fun
  | [d] => { results := [.lit (.bool false)], args := [d] }
  | _ => none }
def FnExactLinPortWrongFalsely : Prop := fnExactLinPortRow.holds Tryd.pinned (OpenSpec.ofChange fnExactLinPortWrong)

/-- 'laws.FnExactEndRead': WHATEVER THE INPUT: true; the input reads as it did. -/
def fnExactEndReadSpec : ChangeSpec := { name := "fnExactEndRead", vars := ["loop.example/hatchway/impl.errEnd"], fn := fun _ => fun
  | [d, g1] => { results := [.lit (.bool true)], args := [d], vars := [g1] }
  | _ => none }
def fnExactEndReadRow : OpenClaim := { program := "ytlofgoahgnllkaadoor", sum := "0eccbd1d88a5616c0ac5d4f11b620eff92fa1ac7654f31b31f4037853a40ccbf", func := "loop.example/hatchway/laws.FnExactEndRead", spec := "fnExactEndRead", inPlace := ["internal/bytealg.IndexByteString", "internal/bytealg.IndexString"], named := ["loop.example/hatchway/impl.errEnd", "internal/bytealg.MaxLen", "strconv.ErrSyntax", "strconv.ErrRange", "internal/strconv.uint64pow10", "math/bits.deBruijn32tab", "math/bits.deBruijn64tab"], ifaces := true, plainKeys := false, apart := false, laid := [("math/bits.deBruijn32tab", laid_math_bits_deBruijn32tab), ("math/bits.deBruijn64tab", laid_math_bits_deBruijn64tab), ("internal/strconv.uint64pow10", laid_internal_strconv_uint64pow10), ("strconv.ErrRange", laid_strconv_ErrRange), ("strconv.ErrSyntax", laid_strconv_ErrSyntax), ("loop.example/hatchway/impl.errEnd", laid_loop_example_hatchway_impl_errEnd)] }
def FnExactEndReadSaid : Prop := fnExactEndReadRow.holds Tryd.pinned (OpenSpec.ofChange fnExactEndReadSpec)

/-- ITS FALSE NEIGHBOUR: 'it returns false'. Refute it at one input. -/
def fnExactEndReadWrong : ChangeSpec := { name := "fnExactEndRead", vars := ["loop.example/hatchway/impl.errEnd"], fn := fun _ => fun
  | [d, g1] => { results := [.lit (.bool false)], args := [d], vars := [g1] }
  | _ => none }
def FnExactEndReadWrongFalsely : Prop := fnExactEndReadRow.holds Tryd.pinned (OpenSpec.ofChange fnExactEndReadWrong)

/-- 'laws.FnExactLinBox': WHATEVER THE INPUT: true; the input reads as it did. -/
def fnExactLinBoxSpec : ChangeSpec := { name := "fnExactLinBox", vars := ["loop.example/hatchway/impl.errEnd"], fn := fun _ => fun
  | [d, g1] => { results := [.lit (.bool true)], args := [d], vars := [g1] }
  | _ => none }
def fnExactLinBoxRow : OpenClaim := { program := "ytlofgoahgnllkaadoor", sum := "0eccbd1d88a5616c0ac5d4f11b620eff92fa1ac7654f31b31f4037853a40ccbf", func := "loop.example/hatchway/laws.FnExactLinBox", spec := "fnExactLinBox", inPlace := ["internal/bytealg.IndexByteString", "internal/bytealg.IndexString"], named := ["loop.example/hatchway/impl.errEnd", "internal/bytealg.MaxLen", "strconv.ErrSyntax", "strconv.ErrRange", "internal/strconv.uint64pow10", "math/bits.deBruijn32tab", "math/bits.deBruijn64tab"], ifaces := true, plainKeys := false, apart := false, laid := [("math/bits.deBruijn32tab", laid_math_bits_deBruijn32tab), ("math/bits.deBruijn64tab", laid_math_bits_deBruijn64tab), ("internal/strconv.uint64pow10", laid_internal_strconv_uint64pow10), ("strconv.ErrRange", laid_strconv_ErrRange), ("strconv.ErrSyntax", laid_strconv_ErrSyntax), ("loop.example/hatchway/impl.errEnd", laid_loop_example_hatchway_impl_errEnd)] }
def FnExactLinBoxSaid : Prop := fnExactLinBoxRow.holds Tryd.pinned (OpenSpec.ofChange fnExactLinBoxSpec)

/-- ITS FALSE NEIGHBOUR: 'it returns false'. Refute it at one input. -/
def fnExactLinBoxWrong : ChangeSpec := { name := "fnExactLinBox", vars := ["loop.example/hatchway/impl.errEnd"], fn := fun _ => fun
  | [d, g1] => { results := [.lit (.bool false)], args := [d], vars := [g1] }
  | _ => none }
def FnExactLinBoxWrongFalsely : Prop := fnExactLinBoxRow.holds Tryd.pinned (OpenSpec.ofChange fnExactLinBoxWrong)

/-- 'laws.FnExactLinSays': WHATEVER THE INPUT: true; the input reads as it did. -/
def fnExactLinSaysSpec : ChangeSpec := { name := "fnExactLinSays", vars := ["loop.example/hatchway/impl.errEnd"], fn := fun _ => fun
  | [d, g1] => { results := [.lit (.bool true)], args := [d], vars := [g1] }
  | _ => none }
def fnExactLinSaysRow : OpenClaim := { program := "ytlofgoahgnllkaadoor", sum := "0eccbd1d88a5616c0ac5d4f11b620eff92fa1ac7654f31b31f4037853a40ccbf", func := "loop.example/hatchway/laws.FnExactLinSays", spec := "fnExactLinSays", inPlace := ["internal/bytealg.IndexByteString", "internal/bytealg.IndexString"], named := ["loop.example/hatchway/impl.errEnd", "internal/bytealg.MaxLen", "strconv.ErrSyntax", "strconv.ErrRange", "internal/strconv.uint64pow10", "math/bits.deBruijn32tab", "math/bits.deBruijn64tab"], ifaces := true, plainKeys := false, apart := false, laid := [("math/bits.deBruijn32tab", laid_math_bits_deBruijn32tab), ("math/bits.deBruijn64tab", laid_math_bits_deBruijn64tab), ("internal/strconv.uint64pow10", laid_internal_strconv_uint64pow10), ("strconv.ErrRange", laid_strconv_ErrRange), ("strconv.ErrSyntax", laid_strconv_ErrSyntax), ("loop.example/hatchway/impl.errEnd", laid_loop_example_hatchway_impl_errEnd)] }
def FnExactLinSaysSaid : Prop := fnExactLinSaysRow.holds Tryd.pinned (OpenSpec.ofChange fnExactLinSaysSpec)

/-- ITS FALSE NEIGHBOUR: 'it returns false'. Refute it at one input. -/
def fnExactLinSaysWrong : ChangeSpec := { name := "fnExactLinSays", vars := ["loop.example/hatchway/impl.errEnd"], fn := fun _ => fun
  | [d, g1] => { results := [.lit (.bool false)], args := [d], vars := [g1] }
  | _ => none }
def FnExactLinSaysWrongFalsely : Prop := fnExactLinSaysRow.holds Tryd.pinned (OpenSpec.ofChange fnExactLinSaysWrong)

/-- 'laws.FnLinShort': WHATEVER THE INPUT: true; the input reads as it did. -/
def fnLinShortSpec : ChangeSpec := { name := "fnLinShort", vars := ["loop.example/hatchway/impl.errEnd"], fn := fun _ => fun
  | [d, g1] => { results := [.lit (.bool true)], args := [d], vars := [g1] }
  | _ => none }
def fnLinShortRow : OpenClaim := { program := "ytlofgoahgnllkaadoor", sum := "0eccbd1d88a5616c0ac5d4f11b620eff92fa1ac7654f31b31f4037853a40ccbf", func := "loop.example/hatchway/laws.FnLinShort", spec := "fnLinShort", inPlace := ["internal/bytealg.IndexByteString", "internal/bytealg.IndexString"], named := ["internal/strconv.uint64pow10", "math/bits.deBruijn32tab", "math/bits.deBruijn64tab", "loop.example/hatchway/impl.errEnd", "internal/bytealg.MaxLen", "strconv.ErrSyntax", "strconv.ErrRange"], ifaces := true, plainKeys := false, apart := false, laid := [("math/bits.deBruijn32tab", laid_math_bits_deBruijn32tab), ("math/bits.deBruijn64tab", laid_math_bits_deBruijn64tab), ("internal/strconv.uint64pow10", laid_internal_strconv_uint64pow10), ("strconv.ErrRange", laid_strconv_ErrRange), ("strconv.ErrSyntax", laid_strconv_ErrSyntax), ("loop.example/hatchway/impl.errEnd", laid_loop_example_hatchway_impl_errEnd)] }
def FnLinShortSaid : Prop := fnLinShortRow.holds Tryd.pinned (OpenSpec.ofChange fnLinShortSpec)

/-- ITS FALSE NEIGHBOUR: 'it returns false'. Refute it at one input. -/
def fnLinShortWrong : ChangeSpec := { name := "fnLinShort", vars := ["loop.example/hatchway/impl.errEnd"], fn := fun _ => fun
  | [d, g1] => { results := [.lit (.bool false)], args := [d], vars := [g1] }
  | _ => none }
def FnLinShortWrongFalsely : Prop := fnLinShortRow.holds Tryd.pinned (OpenSpec.ofChange fnLinShortWrong)

/-- 'laws.FnEndRead': WHATEVER THE INPUT: true; the input reads as it did. -/
def fnEndReadSpec : ChangeSpec := { name := "fnEndRead", vars := ["loop.example/hatchway/impl.errEnd"], fn := fun _ => fun
  | [d1, d2, g1] => { results := [.lit (.bool true)], args := [d1, d2], vars := [g1] }
  | _ => none }
def fnEndReadRow : OpenClaim := { program := "ytlofgoahgnllkaadoor", sum := "0eccbd1d88a5616c0ac5d4f11b620eff92fa1ac7654f31b31f4037853a40ccbf", func := "loop.example/hatchway/laws.FnEndRead", spec := "fnEndRead", inPlace := ["internal/bytealg.IndexByteString", "internal/bytealg.IndexString"], named := ["loop.example/hatchway/impl.errEnd", "internal/bytealg.MaxLen", "strconv.ErrSyntax", "strconv.ErrRange", "internal/strconv.uint64pow10", "math/bits.deBruijn32tab", "math/bits.deBruijn64tab"], ifaces := true, plainKeys := false, apart := false, laid := [("math/bits.deBruijn32tab", laid_math_bits_deBruijn32tab), ("math/bits.deBruijn64tab", laid_math_bits_deBruijn64tab), ("internal/strconv.uint64pow10", laid_internal_strconv_uint64pow10), ("strconv.ErrRange", laid_strconv_ErrRange), ("strconv.ErrSyntax", laid_strconv_ErrSyntax), ("loop.example/hatchway/impl.errEnd", laid_loop_example_hatchway_impl_errEnd)] }
def FnEndReadSaid : Prop := fnEndReadRow.holds Tryd.pinned (OpenSpec.ofChange fnEndReadSpec)

/-- ITS FALSE NEIGHBOUR: 'it returns false'. Refute it at one input. -/
def fnEndReadWrong : ChangeSpec := { name := "fnEndRead", vars := ["loop.example/hatchway/impl.errEnd"], fn := fun _ => fun
  | [d1, d2, g1] => { results := [.lit (.bool false)], args := [d1, d2], vars := [g1] }
  | _ => none }
def FnEndReadWrongFalsely : Prop := fnEndReadRow.holds Tryd.pinned (OpenSpec.ofChange fnEndReadWrong)

/-- 'laws.FnEndText': WHATEVER THE INPUT: true; the input reads as it did. -/
def fnEndTextSpec : ChangeSpec := { name := "fnEndText", vars := ["loop.example/hatchway/impl.errEnd"], fn := fun _ => fun
  | [d1, d2, g1] => { results := [.lit (.bool true)], args := [d1, d2], vars := [g1] }
  | _ => none }
def fnEndTextRow : OpenClaim := { program := "ytlofgoahgnllkaadoor", sum := "0eccbd1d88a5616c0ac5d4f11b620eff92fa1ac7654f31b31f4037853a40ccbf", func := "loop.example/hatchway/laws.FnEndText", spec := "fnEndText", inPlace := ["internal/bytealg.IndexByteString", "internal/bytealg.IndexString"], named := ["loop.example/hatchway/impl.errEnd", "internal/bytealg.MaxLen", "strconv.ErrSyntax", "strconv.ErrRange", "internal/strconv.uint64pow10", "math/bits.deBruijn32tab", "math/bits.deBruijn64tab"], ifaces := true, plainKeys := false, apart := false, laid := [("math/bits.deBruijn32tab", laid_math_bits_deBruijn32tab), ("math/bits.deBruijn64tab", laid_math_bits_deBruijn64tab), ("internal/strconv.uint64pow10", laid_internal_strconv_uint64pow10), ("strconv.ErrRange", laid_strconv_ErrRange), ("strconv.ErrSyntax", laid_strconv_ErrSyntax), ("loop.example/hatchway/impl.errEnd", laid_loop_example_hatchway_impl_errEnd)] }
def FnEndTextSaid : Prop := fnEndTextRow.holds Tryd.pinned (OpenSpec.ofChange fnEndTextSpec)

/-- ITS FALSE NEIGHBOUR: 'it returns false'. Refute it at one input. -/
def fnEndTextWrong : ChangeSpec := { name := "fnEndText", vars := ["loop.example/hatchway/impl.errEnd"], fn := fun _ => fun
  | [d1, d2, g1] => { results := [.lit (.bool false)], args := [d1, d2], vars := [g1] }
  | _ => none }
def FnEndTextWrongFalsely : Prop := fnEndTextRow.holds Tryd.pinned (OpenSpec.ofChange fnEndTextWrong)

/-- 'laws.FnLinBox': WHATEVER THE INPUT: true; the input reads as it did. -/
def fnLinBoxSpec : ChangeSpec := { name := "fnLinBox", vars := ["loop.example/hatchway/impl.errEnd"], fn := fun _ => fun
  | [d, g1] => { results := [.lit (.bool true)], args := [d], vars := [g1] }
  | _ => none }
def fnLinBoxRow : OpenClaim := { program := "ytlofgoahgnllkaadoor", sum := "0eccbd1d88a5616c0ac5d4f11b620eff92fa1ac7654f31b31f4037853a40ccbf", func := "loop.example/hatchway/laws.FnLinBox", spec := "fnLinBox", inPlace := ["internal/bytealg.IndexByteString", "internal/bytealg.IndexString"], named := ["loop.example/hatchway/impl.errEnd", "internal/bytealg.MaxLen", "strconv.ErrSyntax", "strconv.ErrRange", "internal/strconv.uint64pow10", "math/bits.deBruijn32tab", "math/bits.deBruijn64tab"], ifaces := true, plainKeys := false, apart := false, laid := [("math/bits.deBruijn32tab", laid_math_bits_deBruijn32tab), ("math/bits.deBruijn64tab", laid_math_bits_deBruijn64tab), ("internal/strconv.uint64pow10", laid_internal_strconv_uint64pow10), ("strconv.ErrRange", laid_strconv_ErrRange), ("strconv.ErrSyntax", laid_strconv_ErrSyntax), ("loop.example/hatchway/impl.errEnd", laid_loop_example_hatchway_impl_errEnd)] }
def FnLinBoxSaid : Prop := fnLinBoxRow.holds Tryd.pinned (OpenSpec.ofChange fnLinBoxSpec)

/-- ITS FALSE NEIGHBOUR: 'it returns false'. Refute it at one input. -/
def fnLinBoxWrong : ChangeSpec := { name := "fnLinBox", vars := ["loop.example/hatchway/impl.errEnd"], fn := fun _ => fun
  | [d, g1] => { results := [.lit (.bool false)], args := [d], vars := [g1] }
  | _ => none }
def FnLinBoxWrongFalsely : Prop := fnLinBoxRow.holds Tryd.pinned (OpenSpec.ofChange fnLinBoxWrong)

/-- 'laws.FnLinSays': WHATEVER THE INPUT: true; the input reads as it did. -/
def fnLinSaysSpec : ChangeSpec := { name := "fnLinSays", vars := ["loop.example/hatchway/impl.errEnd"], fn := fun _ => fun
  | [d1, d2, g1] => { results := [.lit (.bool true)], args := [d1, d2], vars := [g1] }
  | _ => none }
def fnLinSaysRow : OpenClaim := { program := "ytlofgoahgnllkaadoor", sum := "0eccbd1d88a5616c0ac5d4f11b620eff92fa1ac7654f31b31f4037853a40ccbf", func := "loop.example/hatchway/laws.FnLinSays", spec := "fnLinSays", inPlace := ["internal/bytealg.IndexByteString", "internal/bytealg.IndexString"], named := ["loop.example/hatchway/impl.errEnd", "internal/bytealg.MaxLen", "strconv.ErrSyntax", "strconv.ErrRange", "internal/strconv.uint64pow10", "math/bits.deBruijn32tab", "math/bits.deBruijn64tab"], ifaces := true, plainKeys := false, apart := false, laid := [("math/bits.deBruijn32tab", laid_math_bits_deBruijn32tab), ("math/bits.deBruijn64tab", laid_math_bits_deBruijn64tab), ("internal/strconv.uint64pow10", laid_internal_strconv_uint64pow10), ("strconv.ErrRange", laid_strconv_ErrRange), ("strconv.ErrSyntax", laid_strconv_ErrSyntax), ("loop.example/hatchway/impl.errEnd", laid_loop_example_hatchway_impl_errEnd)] }
def FnLinSaysSaid : Prop := fnLinSaysRow.holds Tryd.pinned (OpenSpec.ofChange fnLinSaysSpec)

/-- ITS FALSE NEIGHBOUR: 'it returns false'. Refute it at one input. -/
def fnLinSaysWrong : ChangeSpec := { name := "fnLinSays", vars := ["loop.example/hatchway/impl.errEnd"], fn := fun _ => fun
  | [d1, d2, g1] => { results := [.lit (.bool false)], args := [d1, d2], vars := [g1] }
  | _ => none }
def FnLinSaysWrongFalsely : Prop := fnLinSaysRow.holds Tryd.pinned (OpenSpec.ofChange fnLinSaysWrong)

/- THE SECOND FORM. 'bulk': how many values and letters a reading holds, each counted each time it is reached (what is shared counts as often as it is met; a slice's spare places count too). A statement '..UptoSaid' is the law's where the arguments, and the package variables that the reading takes, are together of bulk at most 1048576: NARROWER than '..Said'. Prove '..Said' where nothing that the law and all that it calls make is longer than what came in: it says more and counts as full. Else prove '..UptoSaid'. A law counts once. -/
mutual
def uptoBulk {H : Type} : DataW H → Nat
  | .lit (.string bytes) => bytes.length + 1
  | .lit _ => 1
  | .nil => 1
  | .ptr d => uptoBulk d + 1
  | .slice elems spare => uptoBulkAll elems + uptoBulkAll spare + 1
  | .agg parts => uptoBulkAll parts + 1
  | .iface _ d => uptoBulk d + 1
  | .map entries => uptoBulkEntries entries + 1
  | .held _ => 1
def uptoBulkAll {H : Type} : List (DataW H) → Nat
  | [] => 0
  | d :: r => uptoBulk d + uptoBulkAll r
def uptoBulkEntries {H : Type} : List (Lit × DataW H) → Nat
  | [] => 0
  | x :: r => uptoBulkEntry x + uptoBulkEntries r
def uptoBulkEntry {H : Type} : Lit × DataW H → Nat
  | (.string bytes, d) => bytes.length + uptoBulk d + 1
  | (_, d) => uptoBulk d + 1
 end
def uptoSmall : (H : Type) → List (DataW H) → Bool := fun _ ds => decide (uptoBulkAll ds ≤ 1048576)
def OpenSpec.upto (s : _root_.Go.ChangeSpec) : _root_.Go.OpenSpec := { _root_.Go.OpenSpec.ofChange s with cond := some uptoSmall }

/-- 'laws.FnExactBakLine', WHERE WHAT IT READS IS OF BULK AT MOST 1048576: true; the input reads as it did. -/
def fnExactBakLineUptoRow : OpenClaim := { program := "ytlofgoahgnllkaadoor", sum := "0eccbd1d88a5616c0ac5d4f11b620eff92fa1ac7654f31b31f4037853a40ccbf", func := "loop.example/hatchway/laws.FnExactBakLine", spec := "fnExactBakLine", inPlace := ["internal/bytealg.IndexByteString", "internal/bytealg.IndexString"], named := ["loop.example/hatchway/impl.errEnd", "internal/bytealg.MaxLen", "strconv.ErrSyntax", "strconv.ErrRange", "internal/strconv.uint64pow10", "math/bits.deBruijn32tab", "math/bits.deBruijn64tab"], ifaces := true, plainKeys := false, apart := false, laid := [("math/bits.deBruijn32tab", laid_math_bits_deBruijn32tab), ("math/bits.deBruijn64tab", laid_math_bits_deBruijn64tab), ("internal/strconv.uint64pow10", laid_internal_strconv_uint64pow10), ("strconv.ErrRange", laid_strconv_ErrRange), ("strconv.ErrSyntax", laid_strconv_ErrSyntax), ("loop.example/hatchway/impl.errEnd", laid_loop_example_hatchway_impl_errEnd)], narrowed := true }
def FnExactBakLineUptoSaid : Prop := fnExactBakLineUptoRow.holds Tryd.pinned (OpenSpec.upto fnExactBakLineSpec)

/-- 'laws.FnBakAgain', WHERE WHAT IT READS IS OF BULK AT MOST 1048576: true; the input reads as it did. -/
def fnBakAgainUptoRow : OpenClaim := { program := "ytlofgoahgnllkaadoor", sum := "0eccbd1d88a5616c0ac5d4f11b620eff92fa1ac7654f31b31f4037853a40ccbf", func := "loop.example/hatchway/laws.FnBakAgain", spec := "fnBakAgain", inPlace := ["internal/bytealg.IndexByteString", "internal/bytealg.IndexString"], named := ["loop.example/hatchway/impl.errEnd", "internal/bytealg.MaxLen", "strconv.ErrSyntax", "strconv.ErrRange", "internal/strconv.uint64pow10", "math/bits.deBruijn32tab", "math/bits.deBruijn64tab"], ifaces := true, plainKeys := false, apart := false, laid := [("math/bits.deBruijn32tab", laid_math_bits_deBruijn32tab), ("math/bits.deBruijn64tab", laid_math_bits_deBruijn64tab), ("internal/strconv.uint64pow10", laid_internal_strconv_uint64pow10), ("strconv.ErrRange", laid_strconv_ErrRange), ("strconv.ErrSyntax", laid_strconv_ErrSyntax), ("loop.example/hatchway/impl.errEnd", laid_loop_example_hatchway_impl_errEnd)], narrowed := true }
def FnBakAgainUptoSaid : Prop := fnBakAgainUptoRow.holds Tryd.pinned (OpenSpec.upto fnBakAgainSpec)

/-- 'laws.FnBakLine', WHERE WHAT IT READS IS OF BULK AT MOST 1048576: true; the input reads as it did. -/
def fnBakLineUptoRow : OpenClaim := { program := "ytlofgoahgnllkaadoor", sum := "0eccbd1d88a5616c0ac5d4f11b620eff92fa1ac7654f31b31f4037853a40ccbf", func := "loop.example/hatchway/laws.FnBakLine", spec := "fnBakLine", inPlace := ["internal/bytealg.IndexByteString", "internal/bytealg.IndexString"], named := ["loop.example/hatchway/impl.errEnd", "internal/bytealg.MaxLen", "strconv.ErrSyntax", "strconv.ErrRange", "internal/strconv.uint64pow10", "math/bits.deBruijn32tab", "math/bits.deBruijn64tab"], ifaces := true, plainKeys := false, apart := false, laid := [("math/bits.deBruijn32tab", laid_math_bits_deBruijn32tab), ("math/bits.deBruijn64tab", laid_math_bits_deBruijn64tab), ("internal/strconv.uint64pow10", laid_internal_strconv_uint64pow10), ("strconv.ErrRange", laid_strconv_ErrRange), ("strconv.ErrSyntax", laid_strconv_ErrSyntax), ("loop.example/hatchway/impl.errEnd", laid_loop_example_hatchway_impl_errEnd)], narrowed := true }
def FnBakLineUptoSaid : Prop := fnBakLineUptoRow.holds Tryd.pinned (OpenSpec.upto fnBakLineSpec)

/-- 'laws.FnExactEndText', WHERE WHAT IT READS IS OF BULK AT MOST 1048576: true; the input reads as it did. -/
def fnExactEndTextUptoRow : OpenClaim := { program := "ytlofgoahgnllkaadoor", sum := "0eccbd1d88a5616c0ac5d4f11b620eff92fa1ac7654f31b31f4037853a40ccbf", func := "loop.example/hatchway/laws.FnExactEndText", spec := "fnExactEndText", named := ["internal/strconv.uint64pow10", "math/bits.deBruijn32tab", "math/bits.deBruijn64tab"], plainKeys := false, apart := false, laid := [("math/bits.deBruijn32tab", laid_math_bits_deBruijn32tab), ("math/bits.deBruijn64tab", laid_math_bits_deBruijn64tab), ("internal/strconv.uint64pow10", laid_internal_strconv_uint64pow10)], narrowed := true }
def FnExactEndTextUptoSaid : Prop := fnExactEndTextUptoRow.holds Tryd.pinned (OpenSpec.upto fnExactEndTextSpec)

/-- 'laws.FnExactLinPort', WHERE WHAT IT READS IS OF BULK AT MOST 1048576: true; the input reads as it did. -/
def fnExactLinPortUptoRow : OpenClaim := { program := "ytlofgoahgnllkaadoor", sum := "0eccbd1d88a5616c0ac5d4f11b620eff92fa1ac7654f31b31f4037853a40ccbf", func := "loop.example/hatchway/laws.FnExactLinPort", spec := "fnExactLinPort", named := ["internal/strconv.uint64pow10", "math/bits.deBruijn32tab", "math/bits.deBruijn64tab"], plainKeys := false, apart := false, laid := [("math/bits.deBruijn32tab", laid_math_bits_deBruijn32tab), ("math/bits.deBruijn64tab", laid_math_bits_deBruijn64tab), ("internal/strconv.uint64pow10", laid_internal_strconv_uint64pow10)], narrowed := true }
def FnExactLinPortUptoSaid : Prop := fnExactLinPortUptoRow.holds Tryd.pinned (OpenSpec.upto fnExactLinPortSpec)

/-- 'laws.FnExactEndRead', WHERE WHAT IT READS IS OF BULK AT MOST 1048576: true; the input reads as it did. -/
def fnExactEndReadUptoRow : OpenClaim := { program := "ytlofgoahgnllkaadoor", sum := "0eccbd1d88a5616c0ac5d4f11b620eff92fa1ac7654f31b31f4037853a40ccbf", func := "loop.example/hatchway/laws.FnExactEndRead", spec := "fnExactEndRead", inPlace := ["internal/bytealg.IndexByteString", "internal/bytealg.IndexString"], named := ["loop.example/hatchway/impl.errEnd", "internal/bytealg.MaxLen", "strconv.ErrSyntax", "strconv.ErrRange", "internal/strconv.uint64pow10", "math/bits.deBruijn32tab", "math/bits.deBruijn64tab"], ifaces := true, plainKeys := false, apart := false, laid := [("math/bits.deBruijn32tab", laid_math_bits_deBruijn32tab), ("math/bits.deBruijn64tab", laid_math_bits_deBruijn64tab), ("internal/strconv.uint64pow10", laid_internal_strconv_uint64pow10), ("strconv.ErrRange", laid_strconv_ErrRange), ("strconv.ErrSyntax", laid_strconv_ErrSyntax), ("loop.example/hatchway/impl.errEnd", laid_loop_example_hatchway_impl_errEnd)], narrowed := true }
def FnExactEndReadUptoSaid : Prop := fnExactEndReadUptoRow.holds Tryd.pinned (OpenSpec.upto fnExactEndReadSpec)

/-- 'laws.FnExactLinBox', WHERE WHAT IT READS IS OF BULK AT MOST 1048576: true; the input reads as it did. -/
def fnExactLinBoxUptoRow : OpenClaim := { program := "ytlofgoahgnllkaadoor", sum := "0eccbd1d88a5616c0ac5d4f11b620eff92fa1ac7654f31b31f4037853a40ccbf", func := "loop.example/hatchway/laws.FnExactLinBox", spec := "fnExactLinBox", inPlace := ["internal/bytealg.IndexByteString", "internal/bytealg.IndexString"], named := ["loop.example/hatchway/impl.errEnd", "internal/bytealg.MaxLen", "strconv.ErrSyntax", "strconv.ErrRange", "internal/strconv.uint64pow10", "math/bits.deBruijn32tab", "math/bits.deBruijn64tab"], ifaces := true, plainKeys := false, apart := false, laid := [("math/bits.deBruijn32tab", laid_math_bits_deBruijn32tab), ("math/bits.deBruijn64tab", laid_math_bits_deBruijn64tab), ("internal/strconv.uint64pow10", laid_internal_strconv_uint64pow10), ("strconv.ErrRange", laid_strconv_ErrRange), ("strconv.ErrSyntax", laid_strconv_ErrSyntax), ("loop.example/hatchway/impl.errEnd", laid_loop_example_hatchway_impl_errEnd)], narrowed := true }
def FnExactLinBoxUptoSaid : Prop := fnExactLinBoxUptoRow.holds Tryd.pinned (OpenSpec.upto fnExactLinBoxSpec)

/-- 'laws.FnExactLinSays', WHERE WHAT IT READS IS OF BULK AT MOST 1048576: true; the input reads as it did. -/
def fnExactLinSaysUptoRow : OpenClaim := { program := "ytlofgoahgnllkaadoor", sum := "0eccbd1d88a5616c0ac5d4f11b620eff92fa1ac7654f31b31f4037853a40ccbf", func := "loop.example/hatchway/laws.FnExactLinSays", spec := "fnExactLinSays", inPlace := ["internal/bytealg.IndexByteString", "internal/bytealg.IndexString"], named := ["loop.example/hatchway/impl.errEnd", "internal/bytealg.MaxLen", "strconv.ErrSyntax", "strconv.ErrRange", "internal/strconv.uint64pow10", "math/bits.deBruijn32tab", "math/bits.deBruijn64tab"], ifaces := true, plainKeys := false, apart := false, laid := [("math/bits.deBruijn32tab", laid_math_bits_deBruijn32tab), ("math/bits.deBruijn64tab", laid_math_bits_deBruijn64tab), ("internal/strconv.uint64pow10", laid_internal_strconv_uint64pow10), ("strconv.ErrRange", laid_strconv_ErrRange), ("strconv.ErrSyntax", laid_strconv_ErrSyntax), ("loop.example/hatchway/impl.errEnd", laid_loop_example_hatchway_impl_errEnd)], narrowed := true }
def FnExactLinSaysUptoSaid : Prop := fnExactLinSaysUptoRow.holds Tryd.pinned (OpenSpec.upto fnExactLinSaysSpec)

/-- 'laws.FnLinShort', WHERE WHAT IT READS IS OF BULK AT MOST 1048576: true; the input reads as it did. -/
def fnLinShortUptoRow : OpenClaim := { program := "ytlofgoahgnllkaadoor", sum := "0eccbd1d88a5616c0ac5d4f11b620eff92fa1ac7654f31b31f4037853a40ccbf", func := "loop.example/hatchway/laws.FnLinShort", spec := "fnLinShort", inPlace := ["internal/bytealg.IndexByteString", "internal/bytealg.IndexString"], named := ["internal/strconv.uint64pow10", "math/bits.deBruijn32tab", "math/bits.deBruijn64tab", "loop.example/hatchway/impl.errEnd", "internal/bytealg.MaxLen", "strconv.ErrSyntax", "strconv.ErrRange"], ifaces := true, plainKeys := false, apart := false, laid := [("math/bits.deBruijn32tab", laid_math_bits_deBruijn32tab), ("math/bits.deBruijn64tab", laid_math_bits_deBruijn64tab), ("internal/strconv.uint64pow10", laid_internal_strconv_uint64pow10), ("strconv.ErrRange", laid_strconv_ErrRange), ("strconv.ErrSyntax", laid_strconv_ErrSyntax), ("loop.example/hatchway/impl.errEnd", laid_loop_example_hatchway_impl_errEnd)], narrowed := true }
def FnLinShortUptoSaid : Prop := fnLinShortUptoRow.holds Tryd.pinned (OpenSpec.upto fnLinShortSpec)

/-- 'laws.FnEndRead', WHERE WHAT IT READS IS OF BULK AT MOST 1048576: true; the input reads as it did. -/
def fnEndReadUptoRow : OpenClaim := { program := "ytlofgoahgnllkaadoor", sum := "0eccbd1d88a5616c0ac5d4f11b620eff92fa1ac7654f31b31f4037853a40ccbf", func := "loop.example/hatchway/laws.FnEndRead", spec := "fnEndRead", inPlace := ["internal/bytealg.IndexByteString", "internal/bytealg.IndexString"], named := ["loop.example/hatchway/impl.errEnd", "internal/bytealg.MaxLen", "strconv.ErrSyntax", "strconv.ErrRange", "internal/strconv.uint64pow10", "math/bits.deBruijn32tab", "math/bits.deBruijn64tab"], ifaces := true, plainKeys := false, apart := false, laid := [("math/bits.deBruijn32tab", laid_math_bits_deBruijn32tab), ("math/bits.deBruijn64tab", laid_math_bits_deBruijn64tab), ("internal/strconv.uint64pow10", laid_internal_strconv_uint64pow10), ("strconv.ErrRange", laid_strconv_ErrRange), ("strconv.ErrSyntax", laid_strconv_ErrSyntax), ("loop.example/hatchway/impl.errEnd", laid_loop_example_hatchway_impl_errEnd)], narrowed := true }
def FnEndReadUptoSaid : Prop := fnEndReadUptoRow.holds Tryd.pinned (OpenSpec.upto fnEndReadSpec)

/-- 'laws.FnEndText', WHERE WHAT IT READS IS OF BULK AT MOST 1048576: true; the input reads as it did. -/
def fnEndTextUptoRow : OpenClaim := { program := "ytlofgoahgnllkaadoor", sum := "0eccbd1d88a5616c0ac5d4f11b620eff92fa1ac7654f31b31f4037853a40ccbf", func := "loop.example/hatchway/laws.FnEndText", spec := "fnEndText", inPlace := ["internal/bytealg.IndexByteString", "internal/bytealg.IndexString"], named := ["loop.example/hatchway/impl.errEnd", "internal/bytealg.MaxLen", "strconv.ErrSyntax", "strconv.ErrRange", "internal/strconv.uint64pow10", "math/bits.deBruijn32tab", "math/bits.deBruijn64tab"], ifaces := true, plainKeys := false, apart := false, laid := [("math/bits.deBruijn32tab", laid_math_bits_deBruijn32tab), ("math/bits.deBruijn64tab", laid_math_bits_deBruijn64tab), ("internal/strconv.uint64pow10", laid_internal_strconv_uint64pow10), ("strconv.ErrRange", laid_strconv_ErrRange), ("strconv.ErrSyntax", laid_strconv_ErrSyntax), ("loop.example/hatchway/impl.errEnd", laid_loop_example_hatchway_impl_errEnd)], narrowed := true }
def FnEndTextUptoSaid : Prop := fnEndTextUptoRow.holds Tryd.pinned (OpenSpec.upto fnEndTextSpec)

/-- 'laws.FnLinBox', WHERE WHAT IT READS IS OF BULK AT MOST 1048576: true; the input reads as it did. -/
def fnLinBoxUptoRow : OpenClaim := { program := "ytlofgoahgnllkaadoor", sum := "0eccbd1d88a5616c0ac5d4f11b620eff92fa1ac7654f31b31f4037853a40ccbf", func := "loop.example/hatchway/laws.FnLinBox", spec := "fnLinBox", inPlace := ["internal/bytealg.IndexByteString", "internal/bytealg.IndexString"], named := ["loop.example/hatchway/impl.errEnd", "internal/bytealg.MaxLen", "strconv.ErrSyntax", "strconv.ErrRange", "internal/strconv.uint64pow10", "math/bits.deBruijn32tab", "math/bits.deBruijn64tab"], ifaces := true, plainKeys := false, apart := false, laid := [("math/bits.deBruijn32tab", laid_math_bits_deBruijn32tab), ("math/bits.deBruijn64tab", laid_math_bits_deBruijn64tab), ("internal/strconv.uint64pow10", laid_internal_strconv_uint64pow10), ("strconv.ErrRange", laid_strconv_ErrRange), ("strconv.ErrSyntax", laid_strconv_ErrSyntax), ("loop.example/hatchway/impl.errEnd", laid_loop_example_hatchway_impl_errEnd)], narrowed := true }
def FnLinBoxUptoSaid : Prop := fnLinBoxUptoRow.holds Tryd.pinned (OpenSpec.upto fnLinBoxSpec)

/-- 'laws.FnLinSays', WHERE WHAT IT READS IS OF BULK AT MOST 1048576: true; the input reads as it did. -/
def fnLinSaysUptoRow : OpenClaim := { program := "ytlofgoahgnllkaadoor", sum := "0eccbd1d88a5616c0ac5d4f11b620eff92fa1ac7654f31b31f4037853a40ccbf", func := "loop.example/hatchway/laws.FnLinSays", spec := "fnLinSays", inPlace := ["internal/bytealg.IndexByteString", "internal/bytealg.IndexString"], named := ["loop.example/hatchway/impl.errEnd", "internal/bytealg.MaxLen", "strconv.ErrSyntax", "strconv.ErrRange", "internal/strconv.uint64pow10", "math/bits.deBruijn32tab", "math/bits.deBruijn64tab"], ifaces := true, plainKeys := false, apart := false, laid := [("math/bits.deBruijn32tab", laid_math_bits_deBruijn32tab), ("math/bits.deBruijn64tab", laid_math_bits_deBruijn64tab), ("internal/strconv.uint64pow10", laid_internal_strconv_uint64pow10), ("strconv.ErrRange", laid_strconv_ErrRange), ("strconv.ErrSyntax", laid_strconv_ErrSyntax), ("loop.example/hatchway/impl.errEnd", laid_loop_example_hatchway_impl_errEnd)], narrowed := true }
def FnLinSaysUptoSaid : Prop := fnLinSaysUptoRow.holds Tryd.pinned (OpenSpec.upto fnLinSaysSpec)

end Rows
end Go.Proofs.YtlofgoahgnllkaaDoor
