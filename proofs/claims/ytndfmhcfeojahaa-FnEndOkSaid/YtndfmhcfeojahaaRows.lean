/-
  No cell of these rows narrows 'for every input' (looked for: loops, veiled, ifaces, maps, wideKeys, modest, calm, conditions, laid).
  DERIVED. THE GIVEN ROWS OF THIS SEAT. 11 by the template 'for every input the law returns true; each argument reads behind the call as it read before'; 0 by the template 'total and deterministic' (their statements: YtndfmhcfeojahaaTotals.lean).
  GIVEN WITH THE SEED: the statements are not yours to turn. If you find one false, say at which input.
  Laid BY PROGRAM, IN A SANDBOX (cutbox-rows.mjs): the forced cells as the released guide's own fill.sh prints them over the translation 1b35442767883548… (all of the seat's roots in one cut). By AI agents, Wed Nov 11 2026. No macro, syntax, notation, axiom, sorry.
-/
import Derived.Test.YtndfmhcfeojahaaChecked
import GoSem.Claim
import GoSem.ClaimJoined
import GoSem.ClaimMapViews
import Derived.JoinedTies
import Derived.KernelRfl
namespace Go.Proofs.Ytndfmhcfeojahaa
/- THE CELL 'sum', in the pinned program and in every row, IS THE sha256 OF THE DUMP (.gsa) THAT YtndfmhcfeojahaaProg.lean LOADS. Nothing in Lean hashes anything: it is a label: what it is worth is what the hold of that sum in a sandbox is worth. -/
noncomputable def Try.pinned : Pinned := { name := "ytndfmhcfeojahaa", sum := "1b35442767883548058d1a034ac4c9d0454084f92d78a963aa5b6d3c8f732279", checked := Try.checked }
namespace Rows
def none {H : Type} : Left H := { results := [], args := [] }

/-- 'laws.FnExactConstants': WHATEVER THE INPUT: true; the input reads as it did. -/
def fnExactConstantsSpec : ChangeSpec := { name := "fnExactConstants", fn := fun _ => fun
  | [] => { results := [.lit (.bool true)], args := [] }
  | _ => none }
def fnExactConstantsRow : OpenClaim := { program := "ytndfmhcfeojahaa", sum := "1b35442767883548058d1a034ac4c9d0454084f92d78a963aa5b6d3c8f732279", func := "loop.example/hatchway/laws.FnExactConstants", spec := "fnExactConstants", apart := false }
def FnExactConstantsSaid : Prop := fnExactConstantsRow.holds Try.pinned (OpenSpec.ofChange fnExactConstantsSpec)

/-- ITS FALSE NEIGHBOUR: 'it returns false'. Refute it at one input. -/
def fnExactConstantsWrong : ChangeSpec := { name := "fnExactConstants", fn := fun _ => fun
  | [] => { results := [.lit (.bool false)], args := [] }
  | _ => none }
def FnExactConstantsWrongFalsely : Prop := fnExactConstantsRow.holds Try.pinned (OpenSpec.ofChange fnExactConstantsWrong)

/-- 'laws.FnExactEndInside': WHATEVER THE INPUT: true; the input reads as it did. -/
def fnExactEndInsideSpec : ChangeSpec := { name := "fnExactEndInside", fn := fun _ => fun
  | [d] => { results := [.lit (.bool true)], args := [d] }
  | _ => none }
def fnExactEndInsideRow : OpenClaim := { program := "ytndfmhcfeojahaa", sum := "1b35442767883548058d1a034ac4c9d0454084f92d78a963aa5b6d3c8f732279", func := "loop.example/hatchway/laws.FnExactEndInside", spec := "fnExactEndInside", apart := false }
def FnExactEndInsideSaid : Prop := fnExactEndInsideRow.holds Try.pinned (OpenSpec.ofChange fnExactEndInsideSpec)

/-- ITS FALSE NEIGHBOUR: 'it returns false'. Refute it at one input. -/
def fnExactEndInsideWrong : ChangeSpec := { name := "fnExactEndInside", fn := fun _ => fun
  | [d] => { results := [.lit (.bool false)], args := [d] }
  | _ => none }
def FnExactEndInsideWrongFalsely : Prop := fnExactEndInsideRow.holds Try.pinned (OpenSpec.ofChange fnExactEndInsideWrong)

/-- 'laws.FnExactEndOutside': WHATEVER THE INPUT: true; the input reads as it did. -/
def fnExactEndOutsideSpec : ChangeSpec := { name := "fnExactEndOutside", fn := fun _ => fun
  | [d] => { results := [.lit (.bool true)], args := [d] }
  | _ => none }
def fnExactEndOutsideRow : OpenClaim := { program := "ytndfmhcfeojahaa", sum := "1b35442767883548058d1a034ac4c9d0454084f92d78a963aa5b6d3c8f732279", func := "loop.example/hatchway/laws.FnExactEndOutside", spec := "fnExactEndOutside", apart := false }
def FnExactEndOutsideSaid : Prop := fnExactEndOutsideRow.holds Try.pinned (OpenSpec.ofChange fnExactEndOutsideSpec)

/-- ITS FALSE NEIGHBOUR: 'it returns false'. Refute it at one input. -/
def fnExactEndOutsideWrong : ChangeSpec := { name := "fnExactEndOutside", fn := fun _ => fun
  | [d] => { results := [.lit (.bool false)], args := [d] }
  | _ => none }
def FnExactEndOutsideWrongFalsely : Prop := fnExactEndOutsideRow.holds Try.pinned (OpenSpec.ofChange fnExactEndOutsideWrong)

/-- 'laws.FnExactLinOk': WHATEVER THE INPUT: true; the input reads as it did. -/
def fnExactLinOkSpec : ChangeSpec := { name := "fnExactLinOk", fn := fun _ => fun
  | [d] => { results := [.lit (.bool true)], args := [d] }
  | _ => none }
def fnExactLinOkRow : OpenClaim := { program := "ytndfmhcfeojahaa", sum := "1b35442767883548058d1a034ac4c9d0454084f92d78a963aa5b6d3c8f732279", func := "loop.example/hatchway/laws.FnExactLinOk", spec := "fnExactLinOk", apart := false }
def FnExactLinOkSaid : Prop := fnExactLinOkRow.holds Try.pinned (OpenSpec.ofChange fnExactLinOkSpec)

/-- ITS FALSE NEIGHBOUR: 'it returns false'. Refute it at one input. -/
def fnExactLinOkWrong : ChangeSpec := { name := "fnExactLinOk", fn := fun _ => fun
  | [d] => { results := [.lit (.bool false)], args := [d] }
  | _ => none }
def FnExactLinOkWrongFalsely : Prop := fnExactLinOkRow.holds Try.pinned (OpenSpec.ofChange fnExactLinOkWrong)

/-- 'laws.FnExactRulOk': WHATEVER THE INPUT: true; the input reads as it did. -/
def fnExactRulOkSpec : ChangeSpec := { name := "fnExactRulOk", fn := fun _ => fun
  | [d] => { results := [.lit (.bool true)], args := [d] }
  | _ => none }
def fnExactRulOkRow : OpenClaim := { program := "ytndfmhcfeojahaa", sum := "1b35442767883548058d1a034ac4c9d0454084f92d78a963aa5b6d3c8f732279", func := "loop.example/hatchway/laws.FnExactRulOk", spec := "fnExactRulOk", apart := false }
def FnExactRulOkSaid : Prop := fnExactRulOkRow.holds Try.pinned (OpenSpec.ofChange fnExactRulOkSpec)

/-- ITS FALSE NEIGHBOUR: 'it returns false'. Refute it at one input. -/
def fnExactRulOkWrong : ChangeSpec := { name := "fnExactRulOk", fn := fun _ => fun
  | [d] => { results := [.lit (.bool false)], args := [d] }
  | _ => none }
def FnExactRulOkWrongFalsely : Prop := fnExactRulOkRow.holds Try.pinned (OpenSpec.ofChange fnExactRulOkWrong)

/-- 'laws.FnExactEndOk': WHATEVER THE INPUT: true; the input reads as it did. -/
def fnExactEndOkSpec : ChangeSpec := { name := "fnExactEndOk", fn := fun _ => fun
  | [d] => { results := [.lit (.bool true)], args := [d] }
  | _ => none }
def fnExactEndOkRow : OpenClaim := { program := "ytndfmhcfeojahaa", sum := "1b35442767883548058d1a034ac4c9d0454084f92d78a963aa5b6d3c8f732279", func := "loop.example/hatchway/laws.FnExactEndOk", spec := "fnExactEndOk", apart := false }
def FnExactEndOkSaid : Prop := fnExactEndOkRow.holds Try.pinned (OpenSpec.ofChange fnExactEndOkSpec)

/-- ITS FALSE NEIGHBOUR: 'it returns false'. Refute it at one input. -/
def fnExactEndOkWrong : ChangeSpec := { name := "fnExactEndOk", fn := fun _ => fun
  | [d] => { results := [.lit (.bool false)], args := [d] }
  | _ => none }
def FnExactEndOkWrongFalsely : Prop := fnExactEndOkRow.holds Try.pinned (OpenSpec.ofChange fnExactEndOkWrong)

/-- 'laws.FnExactSegSum': WHATEVER THE INPUT: true; the input reads as it did. -/
def fnExactSegSumSpec : ChangeSpec := { name := "fnExactSegSum", fn := fun _ => fun
  | [d] => { results := [.lit (.bool true)], args := [d] }
  | _ => none }
def fnExactSegSumRow : OpenClaim := { program := "ytndfmhcfeojahaa", sum := "1b35442767883548058d1a034ac4c9d0454084f92d78a963aa5b6d3c8f732279", func := "loop.example/hatchway/laws.FnExactSegSum", spec := "fnExactSegSum", apart := false }
def FnExactSegSumSaid : Prop := fnExactSegSumRow.holds Try.pinned (OpenSpec.ofChange fnExactSegSumSpec)

/-- ITS FALSE NEIGHBOUR: 'it returns false'. Refute it at one input. -/
def fnExactSegSumWrong : ChangeSpec := { name := "fnExactSegSum", fn := fun _ => fun
  | [d] => { results := [.lit (.bool false)], args := [d] }
  | _ => none }
def FnExactSegSumWrongFalsely : Prop := fnExactSegSumRow.holds Try.pinned (OpenSpec.ofChange fnExactSegSumWrong)

/-- 'laws.FnExactSegAdd': WHATEVER THE INPUT: true; the input reads as it did. -/
def fnExactSegAddSpec : ChangeSpec := { name := "fnExactSegAdd", fn := fun _ => fun
  | [d1, d2] => { results := [.lit (.bool true)], args := [d1, d2] }
  | _ => none }
def fnExactSegAddRow : OpenClaim := { program := "ytndfmhcfeojahaa", sum := "1b35442767883548058d1a034ac4c9d0454084f92d78a963aa5b6d3c8f732279", func := "loop.example/hatchway/laws.FnExactSegAdd", spec := "fnExactSegAdd", apart := false }
def FnExactSegAddSaid : Prop := fnExactSegAddRow.holds Try.pinned (OpenSpec.ofChange fnExactSegAddSpec)

/-- ITS FALSE NEIGHBOUR: 'it returns false'. Refute it at one input. -/
def fnExactSegAddWrong : ChangeSpec := { name := "fnExactSegAdd", fn := fun _ => fun
  | [d1, d2] => { results := [.lit (.bool false)], args := [d1, d2] }
  | _ => none }
def FnExactSegAddWrongFalsely : Prop := fnExactSegAddRow.holds Try.pinned (OpenSpec.ofChange fnExactSegAddWrong)

/-- 'laws.FnExactSegOk': WHATEVER THE INPUT: true; the input reads as it did. -/
def fnExactSegOkSpec : ChangeSpec := { name := "fnExactSegOk", fn := fun _ => fun
  | [d] => { results := [.lit (.bool true)], args := [d] }
  | _ => none }
def fnExactSegOkRow : OpenClaim := { program := "ytndfmhcfeojahaa", sum := "1b35442767883548058d1a034ac4c9d0454084f92d78a963aa5b6d3c8f732279", func := "loop.example/hatchway/laws.FnExactSegOk", spec := "fnExactSegOk", apart := false }
def FnExactSegOkSaid : Prop := fnExactSegOkRow.holds Try.pinned (OpenSpec.ofChange fnExactSegOkSpec)

/-- ITS FALSE NEIGHBOUR: 'it returns false'. Refute it at one input. -/
def fnExactSegOkWrong : ChangeSpec := { name := "fnExactSegOk", fn := fun _ => fun
  | [d] => { results := [.lit (.bool false)], args := [d] }
  | _ => none }
def FnExactSegOkWrongFalsely : Prop := fnExactSegOkRow.holds Try.pinned (OpenSpec.ofChange fnExactSegOkWrong)

/-- 'laws.FnEndOk': WHATEVER THE INPUT: true; the input reads as it did. -/
def fnEndOkSpec : ChangeSpec := { name := "fnEndOk", fn := fun _ => fun
  | [d] => { results := [.lit (.bool true)], args := [d] }
  | _ => none }
def fnEndOkRow : OpenClaim := { program := "ytndfmhcfeojahaa", sum := "1b35442767883548058d1a034ac4c9d0454084f92d78a963aa5b6d3c8f732279", func := "loop.example/hatchway/laws.FnEndOk", spec := "fnEndOk", apart := false }
def FnEndOkSaid : Prop := fnEndOkRow.holds Try.pinned (OpenSpec.ofChange fnEndOkSpec)

/-- ITS FALSE NEIGHBOUR: 'it returns false'. Refute it at one input. -/
def fnEndOkWrong : ChangeSpec := { name := "fnEndOk", fn := fun _ => fun
  | [d] => { results := [.lit (.bool false)], args := [d] }
  | _ => none }
def FnEndOkWrongFalsely : Prop := fnEndOkRow.holds Try.pinned (OpenSpec.ofChange fnEndOkWrong)

/-- 'laws.FnLinOk': WHATEVER THE INPUT: true; the input reads as it did. -/
def fnLinOkSpec : ChangeSpec := { name := "fnLinOk", fn := fun _ => fun
  | [d] => { results := [.lit (.bool true)], args := [d] }
  | _ => none }
def fnLinOkRow : OpenClaim := { program := "ytndfmhcfeojahaa", sum := "1b35442767883548058d1a034ac4c9d0454084f92d78a963aa5b6d3c8f732279", func := "loop.example/hatchway/laws.FnLinOk", spec := "fnLinOk", apart := false }
def FnLinOkSaid : Prop := fnLinOkRow.holds Try.pinned (OpenSpec.ofChange fnLinOkSpec)

/-- ITS FALSE NEIGHBOUR: 'it returns false'. Refute it at one input. -/
def fnLinOkWrong : ChangeSpec := { name := "fnLinOk", fn := fun _ => fun
  | [d] => { results := [.lit (.bool false)], args := [d] }
  | _ => none }
def FnLinOkWrongFalsely : Prop := fnLinOkRow.holds Try.pinned (OpenSpec.ofChange fnLinOkWrong)

/- THE SECOND FORM. 'bulk': how many values and letters a reading holds, each counted each time it is reached (what is shared counts as often as it is met; a slice's spare places count too). A statement '..UptoSaid' is the law's where the arguments, and the package variables that the reading takes, are together of bulk at most 1048576: NARROWER than '..Said'. Prove '..Said' where nothing that the law and all that it calls make is longer than what came in: it says more and counts as full. Else prove '..UptoSaid'. A law counts once. -/
mutual
def uptoBulk {H : Type} : DataW H → Nat
  | .lit (.string bytes) => bytes.length + 1
  | .lit _ => 1
  | .nil => 1
  | .ptr d => uptoBulk d + 1
  | .slice elems spare => uptoBulkAll elems + uptoBulkAll spare + 1
  | .agg parts => uptoBulkAll parts + 1
  | .iface _ d => uptoBulk d + 1
  | .map entries => uptoBulkEntries entries + 1
  | .held _ => 1
def uptoBulkAll {H : Type} : List (DataW H) → Nat
  | [] => 0
  | d :: r => uptoBulk d + uptoBulkAll r
def uptoBulkEntries {H : Type} : List (Lit × DataW H) → Nat
  | [] => 0
  | x :: r => uptoBulkEntry x + uptoBulkEntries r
def uptoBulkEntry {H : Type} : Lit × DataW H → Nat
  | (.string bytes, d) => bytes.length + uptoBulk d + 1
  | (_, d) => uptoBulk d + 1
 end
def uptoSmall : (H : Type) → List (DataW H) → Bool := fun _ ds => decide (uptoBulkAll ds ≤ 1048576)
def OpenSpec.upto (s : _root_.Go.ChangeSpec) : _root_.Go.OpenSpec := { _root_.Go.OpenSpec.ofChange s with cond := some uptoSmall }

/-- 'laws.FnExactConstants', WHERE WHAT IT READS IS OF BULK AT MOST 1048576: true; the input reads as it did. -/
def fnExactConstantsUptoRow : OpenClaim := { program := "ytndfmhcfeojahaa", sum := "1b35442767883548058d1a034ac4c9d0454084f92d78a963aa5b6d3c8f732279", func := "loop.example/hatchway/laws.FnExactConstants", spec := "fnExactConstants", apart := false, narrowed := true }
def FnExactConstantsUptoSaid : Prop := fnExactConstantsUptoRow.holds Try.pinned (OpenSpec.upto fnExactConstantsSpec)

/-- 'laws.FnExactEndInside', WHERE WHAT IT READS IS OF BULK AT MOST 1048576: true; the input reads as it did. -/
def fnExactEndInsideUptoRow : OpenClaim := { program := "ytndfmhcfeojahaa", sum := "1b35442767883548058d1a034ac4c9d0454084f92d78a963aa5b6d3c8f732279", func := "loop.example/hatchway/laws.FnExactEndInside", spec := "fnExactEndInside", apart := false, narrowed := true }
def FnExactEndInsideUptoSaid : Prop := fnExactEndInsideUptoRow.holds Try.pinned (OpenSpec.upto fnExactEndInsideSpec)

/-- 'laws.FnExactEndOutside', WHERE WHAT IT READS IS OF BULK AT MOST 1048576: true; the input reads as it did. -/
def fnExactEndOutsideUptoRow : OpenClaim := { program := "ytndfmhcfeojahaa", sum := "1b35442767883548058d1a034ac4c9d0454084f92d78a963aa5b6d3c8f732279", func := "loop.example/hatchway/laws.FnExactEndOutside", spec := "fnExactEndOutside", apart := false, narrowed := true }
def FnExactEndOutsideUptoSaid : Prop := fnExactEndOutsideUptoRow.holds Try.pinned (OpenSpec.upto fnExactEndOutsideSpec)

/-- 'laws.FnExactLinOk', WHERE WHAT IT READS IS OF BULK AT MOST 1048576: true; the input reads as it did. -/
def fnExactLinOkUptoRow : OpenClaim := { program := "ytndfmhcfeojahaa", sum := "1b35442767883548058d1a034ac4c9d0454084f92d78a963aa5b6d3c8f732279", func := "loop.example/hatchway/laws.FnExactLinOk", spec := "fnExactLinOk", apart := false, narrowed := true }
def FnExactLinOkUptoSaid : Prop := fnExactLinOkUptoRow.holds Try.pinned (OpenSpec.upto fnExactLinOkSpec)

/-- 'laws.FnExactRulOk', WHERE WHAT IT READS IS OF BULK AT MOST 1048576: true; the input reads as it did. -/
def fnExactRulOkUptoRow : OpenClaim := { program := "ytndfmhcfeojahaa", sum := "1b35442767883548058d1a034ac4c9d0454084f92d78a963aa5b6d3c8f732279", func := "loop.example/hatchway/laws.FnExactRulOk", spec := "fnExactRulOk", apart := false, narrowed := true }
def FnExactRulOkUptoSaid : Prop := fnExactRulOkUptoRow.holds Try.pinned (OpenSpec.upto fnExactRulOkSpec)

/-- 'laws.FnExactEndOk', WHERE WHAT IT READS IS OF BULK AT MOST 1048576: true; the input reads as it did. -/
def fnExactEndOkUptoRow : OpenClaim := { program := "ytndfmhcfeojahaa", sum := "1b35442767883548058d1a034ac4c9d0454084f92d78a963aa5b6d3c8f732279", func := "loop.example/hatchway/laws.FnExactEndOk", spec := "fnExactEndOk", apart := false, narrowed := true }
def FnExactEndOkUptoSaid : Prop := fnExactEndOkUptoRow.holds Try.pinned (OpenSpec.upto fnExactEndOkSpec)

/-- 'laws.FnExactSegSum', WHERE WHAT IT READS IS OF BULK AT MOST 1048576: true; the input reads as it did. -/
def fnExactSegSumUptoRow : OpenClaim := { program := "ytndfmhcfeojahaa", sum := "1b35442767883548058d1a034ac4c9d0454084f92d78a963aa5b6d3c8f732279", func := "loop.example/hatchway/laws.FnExactSegSum", spec := "fnExactSegSum", apart := false, narrowed := true }
def FnExactSegSumUptoSaid : Prop := fnExactSegSumUptoRow.holds Try.pinned (OpenSpec.upto fnExactSegSumSpec)

/-- 'laws.FnExactSegAdd', WHERE WHAT IT READS IS OF BULK AT MOST 1048576: true; the input reads as it did. -/
def fnExactSegAddUptoRow : OpenClaim := { program := "ytndfmhcfeojahaa", sum := "1b35442767883548058d1a034ac4c9d0454084f92d78a963aa5b6d3c8f732279", func := "loop.example/hatchway/laws.FnExactSegAdd", spec := "fnExactSegAdd", apart := false, narrowed := true }
def FnExactSegAddUptoSaid : Prop := fnExactSegAddUptoRow.holds Try.pinned (OpenSpec.upto fnExactSegAddSpec)

/-- 'laws.FnExactSegOk', WHERE WHAT IT READS IS OF BULK AT MOST 1048576: true; the input reads as it did. -/
def fnExactSegOkUptoRow : OpenClaim := { program := "ytndfmhcfeojahaa", sum := "1b35442767883548058d1a034ac4c9d0454084f92d78a963aa5b6d3c8f732279", func := "loop.example/hatchway/laws.FnExactSegOk", spec := "fnExactSegOk", apart := false, narrowed := true }
def FnExactSegOkUptoSaid : Prop := fnExactSegOkUptoRow.holds Try.pinned (OpenSpec.upto fnExactSegOkSpec)

/-- 'laws.FnEndOk', WHERE WHAT IT READS IS OF BULK AT MOST 1048576: true; the input reads as it did. -/
def fnEndOkUptoRow : OpenClaim := { program := "ytndfmhcfeojahaa", sum := "1b35442767883548058d1a034ac4c9d0454084f92d78a963aa5b6d3c8f732279", func := "loop.example/hatchway/laws.FnEndOk", spec := "fnEndOk", apart := false, narrowed := true }
def FnEndOkUptoSaid : Prop := fnEndOkUptoRow.holds Try.pinned (OpenSpec.upto fnEndOkSpec)

/-- 'laws.FnLinOk', WHERE WHAT IT READS IS OF BULK AT MOST 1048576: true; the input reads as it did. -/
def fnLinOkUptoRow : OpenClaim := { program := "ytndfmhcfeojahaa", sum := "1b35442767883548058d1a034ac4c9d0454084f92d78a963aa5b6d3c8f732279", func := "loop.example/hatchway/laws.FnLinOk", spec := "fnLinOk", apart := false, narrowed := true }
def FnLinOkUptoSaid : Prop := fnLinOkUptoRow.holds Try.pinned (OpenSpec.upto fnLinOkSpec)

end Rows
end Go.Proofs.Ytndfmhcfeojahaa
