/-
  No cell of these rows narrows 'for every input' (looked for: loops, veiled, ifaces, maps, wideKeys, modest, calm, conditions, laid).
  DERIVED. THE GIVEN ROWS OF THIS SEAT. 5 by the template 'for every input the law returns true; each argument reads behind the call as it read before'; 0 by the template 'total and deterministic' (their statements: YtlofgoahgnllkaaTotals.lean).
  GIVEN WITH THE SEED: the statements are not yours to turn. If you find one false, say at which input.
  Laid BY PROGRAM, IN A SANDBOX (cutbox-rows.mjs): the forced cells as the released guide's own fill.sh prints them over the translation 0eda63e39de9ec98… (all of the seat's roots in one cut). By AI agents, Wed Nov 11 2026. No macro, syntax, notation, axiom, sorry.
-/
import Derived.Test.YtlofgoahgnllkaaChecked
import GoSem.Claim
import GoSem.ClaimJoined
import GoSem.ClaimMapViews
import Derived.JoinedTies
import Derived.KernelRfl
namespace Go.Proofs.Ytlofgoahgnllkaa
/- THE CELL 'sum', in the pinned program and in every row, IS THE sha256 OF THE DUMP (.gsa) THAT YtlofgoahgnllkaaProg.lean LOADS. Nothing in Lean hashes anything: it is a label: what it is worth is what the hold of that sum in a sandbox is worth. -/
noncomputable def Try.pinned : Pinned := { name := "ytlofgoahgnllkaa", sum := "0eda63e39de9ec98eb471ef5b70309a0d15f09fb65b92cfd194eb16121771393", checked := Try.checked }
namespace Rows
def none {H : Type} : Left H := { results := [], args := [] }

/-- 'laws.FnExactMapEnd': WHATEVER THE INPUT: true; the input reads as it did. -/
def fnExactMapEndSpec : ChangeSpec := { name := "fnExactMapEnd", fn := fun _ => fun
  | [d1, d2] => { results := [.lit (.bool true)], args := [d1, d2] }
  | _ => none }
def fnExactMapEndRow : OpenClaim := { program := "ytlofgoahgnllkaa", sum := "0eda63e39de9ec98eb471ef5b70309a0d15f09fb65b92cfd194eb16121771393", func := "loop.example/hatchway/laws.FnExactMapEnd", spec := "fnExactMapEnd", plainKeys := false, apart := false }
def FnExactMapEndSaid : Prop := fnExactMapEndRow.holds Try.pinned (OpenSpec.ofChange fnExactMapEndSpec)

/-- ITS FALSE NEIGHBOUR: 'it returns false'. Refute it at one input. -/
def fnExactMapEndWrong : ChangeSpec := { name := "fnExactMapEnd", fn := fun _ => fun
  | [d1, d2] => { results := [.lit (.bool false)], args := [d1, d2] }
  | _ => none }
def FnExactMapEndWrongFalsely : Prop := fnExactMapEndRow.holds Try.pinned (OpenSpec.ofChange fnExactMapEndWrong)

/-- 'laws.FnExactMapPort': WHATEVER THE INPUT: true; the input reads as it did. -/
def fnExactMapPortSpec : ChangeSpec := { name := "fnExactMapPort", fn := fun _ => fun
  | [d1, d2] => { results := [.lit (.bool true)], args := [d1, d2] }
  | _ => none }
def fnExactMapPortRow : OpenClaim := { program := "ytlofgoahgnllkaa", sum := "0eda63e39de9ec98eb471ef5b70309a0d15f09fb65b92cfd194eb16121771393", func := "loop.example/hatchway/laws.FnExactMapPort", spec := "fnExactMapPort", plainKeys := false, apart := false }
def FnExactMapPortSaid : Prop := fnExactMapPortRow.holds Try.pinned (OpenSpec.ofChange fnExactMapPortSpec)

/-- ITS FALSE NEIGHBOUR: 'it returns false'. Refute it at one input. -/
def fnExactMapPortWrong : ChangeSpec := { name := "fnExactMapPort", fn := fun _ => fun
  | [d1, d2] => { results := [.lit (.bool false)], args := [d1, d2] }
  | _ => none }
def FnExactMapPortWrongFalsely : Prop := fnExactMapPortRow.holds Try.pinned (OpenSpec.ofChange fnExactMapPortWrong)

/-- 'laws.FnExactMapOk': WHATEVER THE INPUT: true; the input reads as it did. -/
def fnExactMapOkSpec : ChangeSpec := { name := "fnExactMapOk", fn := fun _ => fun
  | [d] => { results := [.lit (.bool true)], args := [d] }
  | _ => none }
def fnExactMapOkRow : OpenClaim := { program := "ytlofgoahgnllkaa", sum := "0eda63e39de9ec98eb471ef5b70309a0d15f09fb65b92cfd194eb16121771393", func := "loop.example/hatchway/laws.FnExactMapOk", spec := "fnExactMapOk", plainKeys := false, apart := false }
def FnExactMapOkSaid : Prop := fnExactMapOkRow.holds Try.pinned (OpenSpec.ofChange fnExactMapOkSpec)

/-- ITS FALSE NEIGHBOUR: 'it returns false'. Refute it at one input. -/
def fnExactMapOkWrong : ChangeSpec := { name := "fnExactMapOk", fn := fun _ => fun
  | [d] => { results := [.lit (.bool false)], args := [d] }
  | _ => none }
def FnExactMapOkWrongFalsely : Prop := fnExactMapOkRow.holds Try.pinned (OpenSpec.ofChange fnExactMapOkWrong)

/-- 'laws.FnMapOk': WHATEVER THE INPUT: true; the input reads as it did. -/
def fnMapOkSpec : ChangeSpec := { name := "fnMapOk", fn := fun _ => fun
  | [d] => { results := [.lit (.bool true)], args := [d] }
  | _ => none }
def fnMapOkRow : OpenClaim := { program := "ytlofgoahgnllkaa", sum := "0eda63e39de9ec98eb471ef5b70309a0d15f09fb65b92cfd194eb16121771393", func := "loop.example/hatchway/laws.FnMapOk", spec := "fnMapOk", plainKeys := false, apart := false }
def FnMapOkSaid : Prop := fnMapOkRow.holds Try.pinned (OpenSpec.ofChange fnMapOkSpec)

/-- ITS FALSE NEIGHBOUR: 'it returns false'. Refute it at one input. -/
def fnMapOkWrong : ChangeSpec := { name := "fnMapOk", fn := fun _ => fun
  | [d] => { results := [.lit (.bool false)], args := [d] }
  | _ => none }
def FnMapOkWrongFalsely : Prop := fnMapOkRow.holds Try.pinned (OpenSpec.ofChange fnMapOkWrong)

/-- 'laws.FnMapEnd': WHATEVER THE INPUT: true; the input reads as it did. -/
def fnMapEndSpec : ChangeSpec := { name := "fnMapEnd", fn := fun _ => fun
  | [d1, d2] => { results := [.lit (.bool true)], args := [d1, d2] }
  | _ => none }
def fnMapEndRow : OpenClaim := { program := "ytlofgoahgnllkaa", sum := "0eda63e39de9ec98eb471ef5b70309a0d15f09fb65b92cfd194eb16121771393", func := "loop.example/hatchway/laws.FnMapEnd", spec := "fnMapEnd", plainKeys := false, apart := false }
def FnMapEndSaid : Prop := fnMapEndRow.holds Try.pinned (OpenSpec.ofChange fnMapEndSpec)

/-- ITS FALSE NEIGHBOUR: 'it returns false'. Refute it at one input. -/
def fnMapEndWrong : ChangeSpec := { name := "fnMapEnd", fn := fun _ => fun
  | [d1, d2] => { results := [.lit (.bool false)], args := [d1, d2] }
  | _ => none }
def FnMapEndWrongFalsely : Prop := fnMapEndRow.holds Try.pinned (OpenSpec.ofChange fnMapEndWrong)

/- THE SECOND FORM. 'bulk': how many values and letters a reading holds, each counted each time it is reached (what is shared counts as often as it is met; a slice's spare places count too). A statement '..UptoSaid' is the law's where the arguments, and the package variables that the reading takes, are together of bulk at most 1048576: NARROWER than '..Said'. Prove '..Said' where nothing that the law and all that it calls make is longer than what came in: it says more and counts as full. Else prove '..UptoSaid'. A law counts once. -/
mutual
def uptoBulk {H : Type} : DataW H → Nat
  | .lit (.string bytes) => bytes.length + 1
  | .lit _ => 1
  | .nil => 1
  | .ptr d => uptoBulk d + 1
  | .slice elems spare => uptoBulkAll elems + uptoBulkAll spare + 1
  | .agg parts => uptoBulkAll parts + 1
  | .iface _ d => uptoBulk d + 1
  | .map entries => uptoBulkEntries entries + 1
  | .held _ => 1
def uptoBulkAll {H : Type} : List (DataW H) → Nat
  | [] => 0
  | d :: r => uptoBulk d + uptoBulkAll r
def uptoBulkEntries {H : Type} : List (Lit × DataW H) → Nat
  | [] => 0
  | x :: r => uptoBulkEntry x + uptoBulkEntries r
def uptoBulkEntry {H : Type} : Lit × DataW H → Nat
  | (.string bytes, d) => bytes.length + uptoBulk d + 1
  | (_, d) => uptoBulk d + 1
 end
def uptoSmall : (H : Type) → List (DataW H) → Bool := fun _ ds => decide (uptoBulkAll ds ≤ 1048576)
def OpenSpec.upto (s : _root_.Go.ChangeSpec) : _root_.Go.OpenSpec := { _root_.Go.OpenSpec.ofChange s with cond := some uptoSmall }

/-- 'laws.FnExactMapEnd', WHERE WHAT IT READS IS OF BULK AT MOST 1048576: true; the input reads as it did. -/
def fnExactMapEndUptoRow : OpenClaim := { program := "ytlofgoahgnllkaa", sum := "0eda63e39de9ec98eb471ef5b70309a0d15f09fb65b92cfd194eb16121771393", func := "loop.example/hatchway/laws.FnExactMapEnd", spec := "fnExactMapEnd", plainKeys := false, apart := false, narrowed := true }
def FnExactMapEndUptoSaid : Prop := fnExactMapEndUptoRow.holds Try.pinned (OpenSpec.upto fnExactMapEndSpec)

/-- 'laws.FnExactMapPort', WHERE WHAT IT READS IS OF BULK AT MOST 1048576: true; the input reads as it did. -/
def fnExactMapPortUptoRow : OpenClaim := { program := "ytlofgoahgnllkaa", sum := "0eda63e39de9ec98eb471ef5b70309a0d15f09fb65b92cfd194eb16121771393", func := "loop.example/hatchway/laws.FnExactMapPort", spec := "fnExactMapPort", plainKeys := false, apart := false, narrowed := true }
def FnExactMapPortUptoSaid : Prop := fnExactMapPortUptoRow.holds Try.pinned (OpenSpec.upto fnExactMapPortSpec)

/-- 'laws.FnExactMapOk', WHERE WHAT IT READS IS OF BULK AT MOST 1048576: true; the input reads as it did. -/
def fnExactMapOkUptoRow : OpenClaim := { program := "ytlofgoahgnllkaa", sum := "0eda63e39de9ec98eb471ef5b70309a0d15f09fb65b92cfd194eb16121771393", func := "loop.example/hatchway/laws.FnExactMapOk", spec := "fnExactMapOk", plainKeys := false, apart := false, narrowed := true }
def FnExactMapOkUptoSaid : Prop := fnExactMapOkUptoRow.holds Try.pinned (OpenSpec.upto fnExactMapOkSpec)

/-- 'laws.FnMapOk', WHERE WHAT IT READS IS OF BULK AT MOST 1048576: true; the input reads as it did. -/
def fnMapOkUptoRow : OpenClaim := { program := "ytlofgoahgnllkaa", sum := "0eda63e39de9ec98eb471ef5b70309a0d15f09fb65b92cfd194eb16121771393", func := "loop.example/hatchway/laws.FnMapOk", spec := "fnMapOk", plainKeys := false, apart := false, narrowed := true }
def FnMapOkUptoSaid : Prop := fnMapOkUptoRow.holds Try.pinned (OpenSpec.upto fnMapOkSpec)

/-- 'laws.FnMapEnd', WHERE WHAT IT READS IS OF BULK AT MOST 1048576: true; the input reads as it did. -/
def fnMapEndUptoRow : OpenClaim := { program := "ytlofgoahgnllkaa", sum := "0eda63e39de9ec98eb471ef5b70309a0d15f09fb65b92cfd194eb16121771393", func := "loop.example/hatchway/laws.FnMapEnd", spec := "fnMapEnd", plainKeys := false, apart := false, narrowed := true }
def FnMapEndUptoSaid : Prop := fnMapEndUptoRow.holds Try.pinned (OpenSpec.upto fnMapEndSpec)

end Rows
end Go.Proofs.Ytlofgoahgnllkaa
