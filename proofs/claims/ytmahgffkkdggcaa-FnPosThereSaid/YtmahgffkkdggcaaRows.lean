/-
  No cell of these rows narrows 'for every input' (looked for: loops, veiled, ifaces, maps, wideKeys, modest, calm, conditions, laid).
  DERIVED. THE GIVEN ROWS OF THIS SEAT. 10 by the template 'for every input the law returns true; each argument reads behind the call as it read before'; 0 by the template 'total and deterministic' (their statements: YtmahgffkkdggcaaTotals.lean).
  GIVEN WITH THE SEED: the statements are not yours to turn. If you find one false, say at which input.
  Laid BY PROGRAM, IN A SANDBOX (cutbox-rows.mjs): the forced cells as the released guide's own fill.sh prints them over the translation 4fae71297ef13cd9… (all of the seat's roots in one cut). By AI agents, Wed Nov 11 2026. No macro, syntax, notation, axiom, sorry.
-/
import Derived.Test.YtmahgffkkdggcaaChecked
import GoSem.Claim
import GoSem.ClaimJoined
import GoSem.ClaimMapViews
import Derived.JoinedTies
import Derived.KernelRfl
namespace Go.Proofs.Ytmahgffkkdggcaa
/- THE CELL 'sum', in the pinned program and in every row, IS THE sha256 OF THE DUMP (.gsa) THAT YtmahgffkkdggcaaProg.lean LOADS. Nothing in Lean hashes anything: it is a label: what it is worth is what the hold of that sum in a sandbox is worth. -/
noncomputable def Try.pinned : Pinned := { name := "ytmahgffkkdggcaa", sum := "4fae71297ef13cd9a36a6e4660af2ca08067cb16da0f5f8d69586c49f1d14d18", checked := Try.checked }
namespace Rows
def none {H : Type} : Left H := { results := [], args := [] }

/-- 'laws.FnExactStrLines': WHATEVER THE INPUT: true; the input reads as it did. -/
def fnExactStrLinesSpec : ChangeSpec := { name := "fnExactStrLines", fn := fun _ => fun
  | [d] => { results := [.lit (.bool true)], args := [d] }
  | _ => none }
def fnExactStrLinesRow : OpenClaim := { program := "ytmahgffkkdggcaa", sum := "4fae71297ef13cd9a36a6e4660af2ca08067cb16da0f5f8d69586c49f1d14d18", func := "loop.example/hatchway/laws.FnExactStrLines", spec := "fnExactStrLines", inPlace := ["internal/bytealg.CountString", "internal/bytealg.IndexByteString", "internal/bytealg.IndexString"], unfollowed := true, recurses := true, named := ["internal/bytealg.MaxLen"], apart := false }
def FnExactStrLinesSaid : Prop := fnExactStrLinesRow.holds Try.pinned (OpenSpec.ofChange fnExactStrLinesSpec)

/-- ITS FALSE NEIGHBOUR: 'it returns false'. Refute it at one input. -/
def fnExactStrLinesWrong : ChangeSpec := { name := "fnExactStrLines", fn := fun _ => fun
  | [d] => { results := [.lit (.bool false)], args := [d] }
  | _ => none }
def FnExactStrLinesWrongFalsely : Prop := fnExactStrLinesRow.holds Try.pinned (OpenSpec.ofChange fnExactStrLinesWrong)

/-- 'laws.FnExactStrOk': WHATEVER THE INPUT: true; the input reads as it did. -/
def fnExactStrOkSpec : ChangeSpec := { name := "fnExactStrOk", fn := fun _ => fun
  | [d] => { results := [.lit (.bool true)], args := [d] }
  | _ => none }
def fnExactStrOkRow : OpenClaim := { program := "ytmahgffkkdggcaa", sum := "4fae71297ef13cd9a36a6e4660af2ca08067cb16da0f5f8d69586c49f1d14d18", func := "loop.example/hatchway/laws.FnExactStrOk", spec := "fnExactStrOk", inPlace := ["internal/bytealg.CountString", "internal/bytealg.IndexByteString", "internal/bytealg.IndexString"], unfollowed := true, recurses := true, named := ["internal/bytealg.MaxLen"], apart := false }
def FnExactStrOkSaid : Prop := fnExactStrOkRow.holds Try.pinned (OpenSpec.ofChange fnExactStrOkSpec)

/-- ITS FALSE NEIGHBOUR: 'it returns false'. Refute it at one input. -/
def fnExactStrOkWrong : ChangeSpec := { name := "fnExactStrOk", fn := fun _ => fun
  | [d] => { results := [.lit (.bool false)], args := [d] }
  | _ => none }
def FnExactStrOkWrongFalsely : Prop := fnExactStrOkRow.holds Try.pinned (OpenSpec.ofChange fnExactStrOkWrong)

/-- 'laws.FnExactPosThere': WHATEVER THE INPUT: true; the input reads as it did. -/
def fnExactPosThereSpec : ChangeSpec := { name := "fnExactPosThere", fn := fun _ => fun
  | [d1, d2, d3] => { results := [.lit (.bool true)], args := [d1, d2, d3] }
  | _ => none }
def fnExactPosThereRow : OpenClaim := { program := "ytmahgffkkdggcaa", sum := "4fae71297ef13cd9a36a6e4660af2ca08067cb16da0f5f8d69586c49f1d14d18", func := "loop.example/hatchway/laws.FnExactPosThere", spec := "fnExactPosThere", inPlace := ["internal/bytealg.CountString", "internal/bytealg.IndexByteString", "internal/bytealg.IndexString"], unfollowed := true, recurses := true, named := ["internal/bytealg.MaxLen"], apart := false }
def FnExactPosThereSaid : Prop := fnExactPosThereRow.holds Try.pinned (OpenSpec.ofChange fnExactPosThereSpec)

/-- ITS FALSE NEIGHBOUR: 'it returns false'. Refute it at one input. -/
def fnExactPosThereWrong : ChangeSpec := { name := "fnExactPosThere", fn := fun _ => fun
  | [d1, d2, d3] => { results := [.lit (.bool false)], args := [d1, d2, d3] }
  | _ => none }
def FnExactPosThereWrongFalsely : Prop := fnExactPosThereRow.holds Try.pinned (OpenSpec.ofChange fnExactPosThereWrong)

/-- 'laws.FnExactPosPairs': WHATEVER THE INPUT: true; the input reads as it did. -/
def fnExactPosPairsSpec : ChangeSpec := { name := "fnExactPosPairs", fn := fun _ => fun
  | [d1, d2] => { results := [.lit (.bool true)], args := [d1, d2] }
  | _ => none }
def fnExactPosPairsRow : OpenClaim := { program := "ytmahgffkkdggcaa", sum := "4fae71297ef13cd9a36a6e4660af2ca08067cb16da0f5f8d69586c49f1d14d18", func := "loop.example/hatchway/laws.FnExactPosPairs", spec := "fnExactPosPairs", inPlace := ["internal/bytealg.CountString", "internal/bytealg.IndexByteString", "internal/bytealg.IndexString"], unfollowed := true, recurses := true, named := ["internal/bytealg.MaxLen"], apart := false }
def FnExactPosPairsSaid : Prop := fnExactPosPairsRow.holds Try.pinned (OpenSpec.ofChange fnExactPosPairsSpec)

/-- ITS FALSE NEIGHBOUR: 'it returns false'. Refute it at one input. -/
def fnExactPosPairsWrong : ChangeSpec := { name := "fnExactPosPairs", fn := fun _ => fun
  | [d1, d2] => { results := [.lit (.bool false)], args := [d1, d2] }
  | _ => none }
def FnExactPosPairsWrongFalsely : Prop := fnExactPosPairsRow.holds Try.pinned (OpenSpec.ofChange fnExactPosPairsWrong)

/-- 'laws.FnStrJoin': WHATEVER THE INPUT: true; the input reads as it did. -/
def fnStrJoinSpec : ChangeSpec := { name := "fnStrJoin", fn := fun _ => fun
  | [d1, d2] => { results := [.lit (.bool true)], args := [d1, d2] }
  | _ => none }
def fnStrJoinRow : OpenClaim := { program := "ytmahgffkkdggcaa", sum := "4fae71297ef13cd9a36a6e4660af2ca08067cb16da0f5f8d69586c49f1d14d18", func := "loop.example/hatchway/laws.FnStrJoin", spec := "fnStrJoin", inPlace := ["internal/bytealg.CountString", "internal/bytealg.IndexByteString", "internal/bytealg.IndexString"], unfollowed := true, recurses := true, named := ["internal/bytealg.MaxLen"], apart := false }
def FnStrJoinSaid : Prop := fnStrJoinRow.holds Try.pinned (OpenSpec.ofChange fnStrJoinSpec)

/-- ITS FALSE NEIGHBOUR: 'it returns false'. Refute it at one input. -/
def fnStrJoinWrong : ChangeSpec := { name := "fnStrJoin", fn := fun _ => fun
  | [d1, d2] => { results := [.lit (.bool false)], args := [d1, d2] }
  | _ => none }
def FnStrJoinWrongFalsely : Prop := fnStrJoinRow.holds Try.pinned (OpenSpec.ofChange fnStrJoinWrong)

/-- 'laws.FnStrLines': WHATEVER THE INPUT: true; the input reads as it did. -/
def fnStrLinesSpec : ChangeSpec := { name := "fnStrLines", fn := fun _ => fun
  | [d] => { results := [.lit (.bool true)], args := [d] }
  | _ => none }
def fnStrLinesRow : OpenClaim := { program := "ytmahgffkkdggcaa", sum := "4fae71297ef13cd9a36a6e4660af2ca08067cb16da0f5f8d69586c49f1d14d18", func := "loop.example/hatchway/laws.FnStrLines", spec := "fnStrLines", inPlace := ["internal/bytealg.CountString", "internal/bytealg.IndexByteString", "internal/bytealg.IndexString"], unfollowed := true, recurses := true, named := ["internal/bytealg.MaxLen"], apart := false }
def FnStrLinesSaid : Prop := fnStrLinesRow.holds Try.pinned (OpenSpec.ofChange fnStrLinesSpec)

/-- ITS FALSE NEIGHBOUR: 'it returns false'. Refute it at one input. -/
def fnStrLinesWrong : ChangeSpec := { name := "fnStrLines", fn := fun _ => fun
  | [d] => { results := [.lit (.bool false)], args := [d] }
  | _ => none }
def FnStrLinesWrongFalsely : Prop := fnStrLinesRow.holds Try.pinned (OpenSpec.ofChange fnStrLinesWrong)

/-- 'laws.FnStrPart': WHATEVER THE INPUT: true; the input reads as it did. -/
def fnStrPartSpec : ChangeSpec := { name := "fnStrPart", fn := fun _ => fun
  | [d] => { results := [.lit (.bool true)], args := [d] }
  | _ => none }
def fnStrPartRow : OpenClaim := { program := "ytmahgffkkdggcaa", sum := "4fae71297ef13cd9a36a6e4660af2ca08067cb16da0f5f8d69586c49f1d14d18", func := "loop.example/hatchway/laws.FnStrPart", spec := "fnStrPart", inPlace := ["internal/bytealg.CountString", "internal/bytealg.IndexByteString", "internal/bytealg.IndexString"], unfollowed := true, recurses := true, named := ["internal/bytealg.MaxLen"], apart := false }
def FnStrPartSaid : Prop := fnStrPartRow.holds Try.pinned (OpenSpec.ofChange fnStrPartSpec)

/-- ITS FALSE NEIGHBOUR: 'it returns false'. Refute it at one input. -/
def fnStrPartWrong : ChangeSpec := { name := "fnStrPart", fn := fun _ => fun
  | [d] => { results := [.lit (.bool false)], args := [d] }
  | _ => none }
def FnStrPartWrongFalsely : Prop := fnStrPartRow.holds Try.pinned (OpenSpec.ofChange fnStrPartWrong)

/-- 'laws.FnStrOk': WHATEVER THE INPUT: true; the input reads as it did. -/
def fnStrOkSpec : ChangeSpec := { name := "fnStrOk", fn := fun _ => fun
  | [d] => { results := [.lit (.bool true)], args := [d] }
  | _ => none }
def fnStrOkRow : OpenClaim := { program := "ytmahgffkkdggcaa", sum := "4fae71297ef13cd9a36a6e4660af2ca08067cb16da0f5f8d69586c49f1d14d18", func := "loop.example/hatchway/laws.FnStrOk", spec := "fnStrOk", inPlace := ["internal/bytealg.CountString", "internal/bytealg.IndexByteString", "internal/bytealg.IndexString"], unfollowed := true, recurses := true, named := ["internal/bytealg.MaxLen"], apart := false }
def FnStrOkSaid : Prop := fnStrOkRow.holds Try.pinned (OpenSpec.ofChange fnStrOkSpec)

/-- ITS FALSE NEIGHBOUR: 'it returns false'. Refute it at one input. -/
def fnStrOkWrong : ChangeSpec := { name := "fnStrOk", fn := fun _ => fun
  | [d] => { results := [.lit (.bool false)], args := [d] }
  | _ => none }
def FnStrOkWrongFalsely : Prop := fnStrOkRow.holds Try.pinned (OpenSpec.ofChange fnStrOkWrong)

/-- 'laws.FnPosPairs': WHATEVER THE INPUT: true; the input reads as it did. -/
def fnPosPairsSpec : ChangeSpec := { name := "fnPosPairs", fn := fun _ => fun
  | [d] => { results := [.lit (.bool true)], args := [d] }
  | _ => none }
def fnPosPairsRow : OpenClaim := { program := "ytmahgffkkdggcaa", sum := "4fae71297ef13cd9a36a6e4660af2ca08067cb16da0f5f8d69586c49f1d14d18", func := "loop.example/hatchway/laws.FnPosPairs", spec := "fnPosPairs", inPlace := ["internal/bytealg.CountString", "internal/bytealg.IndexByteString", "internal/bytealg.IndexString"], unfollowed := true, recurses := true, named := ["internal/bytealg.MaxLen"], apart := false }
def FnPosPairsSaid : Prop := fnPosPairsRow.holds Try.pinned (OpenSpec.ofChange fnPosPairsSpec)

/-- ITS FALSE NEIGHBOUR: 'it returns false'. Refute it at one input. -/
def fnPosPairsWrong : ChangeSpec := { name := "fnPosPairs", fn := fun _ => fun
  | [d] => { results := [.lit (.bool false)], args := [d] }
  | _ => none }
def FnPosPairsWrongFalsely : Prop := fnPosPairsRow.holds Try.pinned (OpenSpec.ofChange fnPosPairsWrong)

/-- 'laws.FnPosThere': WHATEVER THE INPUT: true; the input reads as it did. -/
def fnPosThereSpec : ChangeSpec := { name := "fnPosThere", fn := fun _ => fun
  | [d] => { results := [.lit (.bool true)], args := [d] }
  | _ => none }
def fnPosThereRow : OpenClaim := { program := "ytmahgffkkdggcaa", sum := "4fae71297ef13cd9a36a6e4660af2ca08067cb16da0f5f8d69586c49f1d14d18", func := "loop.example/hatchway/laws.FnPosThere", spec := "fnPosThere", inPlace := ["internal/bytealg.CountString", "internal/bytealg.IndexByteString", "internal/bytealg.IndexString"], unfollowed := true, recurses := true, named := ["internal/bytealg.MaxLen"], apart := false }
def FnPosThereSaid : Prop := fnPosThereRow.holds Try.pinned (OpenSpec.ofChange fnPosThereSpec)

/-- ITS FALSE NEIGHBOUR: 'it returns false'. Refute it at one input. -/
def fnPosThereWrong : ChangeSpec := { name := "fnPosThere", fn := fun _ => fun
  | [d] => { results := [.lit (.bool false)], args := [d] }
  | _ => none }
def FnPosThereWrongFalsely : Prop := fnPosThereRow.holds Try.pinned (OpenSpec.ofChange fnPosThereWrong)

/- THE SECOND FORM. 'bulk': how many values and letters a reading holds, each counted each time it is reached (what is shared counts as often as it is met; a slice's spare places count too). A statement '..UptoSaid' is the law's where the arguments, and the package variables that the reading takes, are together of bulk at most 1048576: NARROWER than '..Said'. Prove '..Said' where nothing that the law and all that it calls make is longer than what came in: it says more and counts as full. Else prove '..UptoSaid'. A law counts once. -/
mutual
def uptoBulk {H : Type} : DataW H → Nat
  | .lit (.string bytes) => bytes.length + 1
  | .lit _ => 1
  | .nil => 1
  | .ptr d => uptoBulk d + 1
  | .slice elems spare => uptoBulkAll elems + uptoBulkAll spare + 1
  | .agg parts => uptoBulkAll parts + 1
  | .iface _ d => uptoBulk d + 1
  | .map entries => uptoBulkEntries entries + 1
  | .held _ => 1
def uptoBulkAll {H : Type} : List (DataW H) → Nat
  | [] => 0
  | d :: r => uptoBulk d + uptoBulkAll r
def uptoBulkEntries {H : Type} : List (Lit × DataW H) → Nat
  | [] => 0
  | x :: r => uptoBulkEntry x + uptoBulkEntries r
def uptoBulkEntry {H : Type} : Lit × DataW H → Nat
  | (.string bytes, d) => bytes.length + uptoBulk d + 1
  | (_, d) => uptoBulk d + 1
 end
def uptoSmall : (H : Type) → List (DataW H) → Bool := fun _ ds => decide (uptoBulkAll ds ≤ 1048576)
def OpenSpec.upto (s : _root_.Go.ChangeSpec) : _root_.Go.OpenSpec := { _root_.Go.OpenSpec.ofChange s with cond := some uptoSmall }

/-- 'laws.FnExactStrLines', WHERE WHAT IT READS IS OF BULK AT MOST 1048576: true; the input reads as it did. -/
def fnExactStrLinesUptoRow : OpenClaim := { program := "ytmahgffkkdggcaa", sum := "4fae71297ef13cd9a36a6e4660af2ca08067cb16da0f5f8d69586c49f1d14d18", func := "loop.example/hatchway/laws.FnExactStrLines", spec := "fnExactStrLines", inPlace := ["internal/bytealg.CountString", "internal/bytealg.IndexByteString", "internal/bytealg.IndexString"], unfollowed := true, recurses := true, named := ["internal/bytealg.MaxLen"], apart := false, narrowed := true }
def FnExactStrLinesUptoSaid : Prop := fnExactStrLinesUptoRow.holds Try.pinned (OpenSpec.upto fnExactStrLinesSpec)

/-- 'laws.FnExactStrOk', WHERE WHAT IT READS IS OF BULK AT MOST 1048576: true; the input reads as it did. -/
def fnExactStrOkUptoRow : OpenClaim := { program := "ytmahgffkkdggcaa", sum := "4fae71297ef13cd9a36a6e4660af2ca08067cb16da0f5f8d69586c49f1d14d18", func := "loop.example/hatchway/laws.FnExactStrOk", spec := "fnExactStrOk", inPlace := ["internal/bytealg.CountString", "internal/bytealg.IndexByteString", "internal/bytealg.IndexString"], unfollowed := true, recurses := true, named := ["internal/bytealg.MaxLen"], apart := false, narrowed := true }
def FnExactStrOkUptoSaid : Prop := fnExactStrOkUptoRow.holds Try.pinned (OpenSpec.upto fnExactStrOkSpec)

/-- 'laws.FnExactPosThere', WHERE WHAT IT READS IS OF BULK AT MOST 1048576: true; the input reads as it did. -/
def fnExactPosThereUptoRow : OpenClaim := { program := "ytmahgffkkdggcaa", sum := "4fae71297ef13cd9a36a6e4660af2ca08067cb16da0f5f8d69586c49f1d14d18", func := "loop.example/hatchway/laws.FnExactPosThere", spec := "fnExactPosThere", inPlace := ["internal/bytealg.CountString", "internal/bytealg.IndexByteString", "internal/bytealg.IndexString"], unfollowed := true, recurses := true, named := ["internal/bytealg.MaxLen"], apart := false, narrowed := true }
def FnExactPosThereUptoSaid : Prop := fnExactPosThereUptoRow.holds Try.pinned (OpenSpec.upto fnExactPosThereSpec)

/-- 'laws.FnExactPosPairs', WHERE WHAT IT READS IS OF BULK AT MOST 1048576: true; the input reads as it did. -/
def fnExactPosPairsUptoRow : OpenClaim := { program := "ytmahgffkkdggcaa", sum := "4fae71297ef13cd9a36a6e4660af2ca08067cb16da0f5f8d69586c49f1d14d18", func := "loop.example/hatchway/laws.FnExactPosPairs", spec := "fnExactPosPairs", inPlace := ["internal/bytealg.CountString", "internal/bytealg.IndexByteString", "internal/bytealg.IndexString"], unfollowed := true, recurses := true, named := ["internal/bytealg.MaxLen"], apart := false, narrowed := true }
def FnExactPosPairsUptoSaid : Prop := fnExactPosPairsUptoRow.holds Try.pinned (OpenSpec.upto fnExactPosPairsSpec)

/-- 'laws.FnStrJoin', WHERE WHAT IT READS IS OF BULK AT MOST 1048576: true; the input reads as it did. -/
def fnStrJoinUptoRow : OpenClaim := { program := "ytmahgffkkdggcaa", sum := "4fae71297ef13cd9a36a6e4660af2ca08067cb16da0f5f8d69586c49f1d14d18", func := "loop.example/hatchway/laws.FnStrJoin", spec := "fnStrJoin", inPlace := ["internal/bytealg.CountString", "internal/bytealg.IndexByteString", "internal/bytealg.IndexString"], unfollowed := true, recurses := true, named := ["internal/bytealg.MaxLen"], apart := false, narrowed := true }
def FnStrJoinUptoSaid : Prop := fnStrJoinUptoRow.holds Try.pinned (OpenSpec.upto fnStrJoinSpec)

/-- 'laws.FnStrLines', WHERE WHAT IT READS IS OF BULK AT MOST 1048576: true; the input reads as it did. -/
def fnStrLinesUptoRow : OpenClaim := { program := "ytmahgffkkdggcaa", sum := "4fae71297ef13cd9a36a6e4660af2ca08067cb16da0f5f8d69586c49f1d14d18", func := "loop.example/hatchway/laws.FnStrLines", spec := "fnStrLines", inPlace := ["internal/bytealg.CountString", "internal/bytealg.IndexByteString", "internal/bytealg.IndexString"], unfollowed := true, recurses := true, named := ["internal/bytealg.MaxLen"], apart := false, narrowed := true }
def FnStrLinesUptoSaid : Prop := fnStrLinesUptoRow.holds Try.pinned (OpenSpec.upto fnStrLinesSpec)

/-- 'laws.FnStrPart', WHERE WHAT IT READS IS OF BULK AT MOST 1048576: true; the input reads as it did. -/
def fnStrPartUptoRow : OpenClaim := { program := "ytmahgffkkdggcaa", sum := "4fae71297ef13cd9a36a6e4660af2ca08067cb16da0f5f8d69586c49f1d14d18", func := "loop.example/hatchway/laws.FnStrPart", spec := "fnStrPart", inPlace := ["internal/bytealg.CountString", "internal/bytealg.IndexByteString", "internal/bytealg.IndexString"], unfollowed := true, recurses := true, named := ["internal/bytealg.MaxLen"], apart := false, narrowed := true }
def FnStrPartUptoSaid : Prop := fnStrPartUptoRow.holds Try.pinned (OpenSpec.upto fnStrPartSpec)

/-- 'laws.FnStrOk', WHERE WHAT IT READS IS OF BULK AT MOST 1048576: true; the input reads as it did. -/
def fnStrOkUptoRow : OpenClaim := { program := "ytmahgffkkdggcaa", sum := "4fae71297ef13cd9a36a6e4660af2ca08067cb16da0f5f8d69586c49f1d14d18", func := "loop.example/hatchway/laws.FnStrOk", spec := "fnStrOk", inPlace := ["internal/bytealg.CountString", "internal/bytealg.IndexByteString", "internal/bytealg.IndexString"], unfollowed := true, recurses := true, named := ["internal/bytealg.MaxLen"], apart := false, narrowed := true }
def FnStrOkUptoSaid : Prop := fnStrOkUptoRow.holds Try.pinned (OpenSpec.upto fnStrOkSpec)

/-- 'laws.FnPosPairs', WHERE WHAT IT READS IS OF BULK AT MOST 1048576: true; the input reads as it did. -/
def fnPosPairsUptoRow : OpenClaim := { program := "ytmahgffkkdggcaa", sum := "4fae71297ef13cd9a36a6e4660af2ca08067cb16da0f5f8d69586c49f1d14d18", func := "loop.example/hatchway/laws.FnPosPairs", spec := "fnPosPairs", inPlace := ["internal/bytealg.CountString", "internal/bytealg.IndexByteString", "internal/bytealg.IndexString"], unfollowed := true, recurses := true, named := ["internal/bytealg.MaxLen"], apart := false, narrowed := true }
def FnPosPairsUptoSaid : Prop := fnPosPairsUptoRow.holds Try.pinned (OpenSpec.upto fnPosPairsSpec)

/-- 'laws.FnPosThere', WHERE WHAT IT READS IS OF BULK AT MOST 1048576: true; the input reads as it did. -/
def fnPosThereUptoRow : OpenClaim := { program := "ytmahgffkkdggcaa", sum := "4fae71297ef13cd9a36a6e4660af2ca08067cb16da0f5f8d69586c49f1d14d18", func := "loop.example/hatchway/laws.FnPosThere", spec := "fnPosThere", inPlace := ["internal/bytealg.CountString", "internal/bytealg.IndexByteString", "internal/bytealg.IndexString"], unfollowed := true, recurses := true, named := ["internal/bytealg.MaxLen"], apart := false, narrowed := true }
def FnPosThereUptoSaid : Prop := fnPosThereUptoRow.holds Try.pinned (OpenSpec.upto fnPosThereSpec)

end Rows
end Go.Proofs.Ytmahgffkkdggcaa
