/-
  No cell of these rows narrows 'for every input' (looked for: loops, veiled, ifaces, maps, wideKeys, modest, calm, conditions, laid).
  DERIVED. THE GIVEN ROWS OF THIS SEAT. 8 by the template 'for every input the law returns true; each argument reads behind the call as it read before'; 0 by the template 'total and deterministic' (their statements: YtdfoelhpeeanlaaTotals.lean).
  GIVEN WITH THE SEED: the statements are not yours to turn. If you find one false, say at which input.
  Laid BY PROGRAM, IN A SANDBOX (cutbox-rows.mjs): the forced cells as the released guide's own fill.sh prints them over the translation 394706db26aa7ecc… (all of the seat's roots in one cut). By AI agents, Wed Nov 11 2026. No macro, syntax, notation, axiom, sorry.
-/
import Derived.Test.YtdfoelhpeeanlaaChecked
import GoSem.Claim
import GoSem.ClaimJoined
import GoSem.ClaimMapViews
import Derived.JoinedTies
import Derived.KernelRfl
namespace Go.Proofs.Ytdfoelhpeeanlaa
/- THE CELL 'sum', in the pinned program and in every row, IS THE sha256 OF THE DUMP (.gsa) THAT YtdfoelhpeeanlaaProg.lean LOADS. Nothing in Lean hashes anything: it is a label: what it is worth is what the hold of that sum in a sandbox is worth. -/
noncomputable def Try.pinned : Pinned := { name := "ytdfoelhpeeanlaa", sum := "394706db26aa7ecc936961d27fc018223bd0cdd0a0214cd3d74fe0b8e03e487b", checked := Try.checked }
namespace Rows
def none {H : Type} : Left H := { results := [], args := [] }

/-- 'laws.FnExactSegBytes': WHATEVER THE INPUT: true; the input reads as it did. -/
def fnExactSegBytesSpec : ChangeSpec := { name := "fnExactSegBytes", fn := fun _ => fun
  | [d] => { results := [.lit (.bool true)], args := [d] }
  | _ => none }
def fnExactSegBytesRow : OpenClaim := { program := "ytdfoelhpeeanlaa", sum := "394706db26aa7ecc936961d27fc018223bd0cdd0a0214cd3d74fe0b8e03e487b", func := "loop.example/hatchway/laws.FnExactSegBytes", spec := "fnExactSegBytes", apart := false }
def FnExactSegBytesSaid : Prop := fnExactSegBytesRow.holds Try.pinned (OpenSpec.ofChange fnExactSegBytesSpec)

/-- ITS FALSE NEIGHBOUR: 'it returns false'. Refute it at one input. -/
def fnExactSegBytesWrong : ChangeSpec := { name := "fnExactSegBytes", fn := fun _ => fun
  | [d] => { results := [.lit (.bool false)], args := [d] }
  | _ => none }
def FnExactSegBytesWrongFalsely : Prop := fnExactSegBytesRow.holds Try.pinned (OpenSpec.ofChange fnExactSegBytesWrong)

/-- 'laws.FnSegOk': WHATEVER THE INPUT: true; the input reads as it did. -/
def fnSegOkSpec : ChangeSpec := { name := "fnSegOk", fn := fun _ => fun
  | [d] => { results := [.lit (.bool true)], args := [d] }
  | _ => none }
def fnSegOkRow : OpenClaim := { program := "ytdfoelhpeeanlaa", sum := "394706db26aa7ecc936961d27fc018223bd0cdd0a0214cd3d74fe0b8e03e487b", func := "loop.example/hatchway/laws.FnSegOk", spec := "fnSegOk", apart := false }
def FnSegOkSaid : Prop := fnSegOkRow.holds Try.pinned (OpenSpec.ofChange fnSegOkSpec)

/-- ITS FALSE NEIGHBOUR: 'it returns false'. Refute it at one input. -/
def fnSegOkWrong : ChangeSpec := { name := "fnSegOk", fn := fun _ => fun
  | [d] => { results := [.lit (.bool false)], args := [d] }
  | _ => none }
def FnSegOkWrongFalsely : Prop := fnSegOkRow.holds Try.pinned (OpenSpec.ofChange fnSegOkWrong)

/-- 'laws.FnSegAdd': WHATEVER THE INPUT: true; the input reads as it did. -/
def fnSegAddSpec : ChangeSpec := { name := "fnSegAdd", fn := fun _ => fun
  | [d] => { results := [.lit (.bool true)], args := [d] }
  | _ => none }
def fnSegAddRow : OpenClaim := { program := "ytdfoelhpeeanlaa", sum := "394706db26aa7ecc936961d27fc018223bd0cdd0a0214cd3d74fe0b8e03e487b", func := "loop.example/hatchway/laws.FnSegAdd", spec := "fnSegAdd", apart := false }
def FnSegAddSaid : Prop := fnSegAddRow.holds Try.pinned (OpenSpec.ofChange fnSegAddSpec)

/-- ITS FALSE NEIGHBOUR: 'it returns false'. Refute it at one input. -/
def fnSegAddWrong : ChangeSpec := { name := "fnSegAdd", fn := fun _ => fun
  | [d] => { results := [.lit (.bool false)], args := [d] }
  | _ => none }
def FnSegAddWrongFalsely : Prop := fnSegAddRow.holds Try.pinned (OpenSpec.ofChange fnSegAddWrong)

/-- 'laws.FnSegSum': WHATEVER THE INPUT: true; the input reads as it did. -/
def fnSegSumSpec : ChangeSpec := { name := "fnSegSum", fn := fun _ => fun
  | [d] => { results := [.lit (.bool true)], args := [d] }
  | _ => none }
def fnSegSumRow : OpenClaim := { program := "ytdfoelhpeeanlaa", sum := "394706db26aa7ecc936961d27fc018223bd0cdd0a0214cd3d74fe0b8e03e487b", func := "loop.example/hatchway/laws.FnSegSum", spec := "fnSegSum", apart := false }
def FnSegSumSaid : Prop := fnSegSumRow.holds Try.pinned (OpenSpec.ofChange fnSegSumSpec)

/-- ITS FALSE NEIGHBOUR: 'it returns false'. Refute it at one input. -/
def fnSegSumWrong : ChangeSpec := { name := "fnSegSum", fn := fun _ => fun
  | [d] => { results := [.lit (.bool false)], args := [d] }
  | _ => none }
def FnSegSumWrongFalsely : Prop := fnSegSumRow.holds Try.pinned (OpenSpec.ofChange fnSegSumWrong)

/-- 'laws.FnSegJoin': WHATEVER THE INPUT: true; the input reads as it did. -/
def fnSegJoinSpec : ChangeSpec := { name := "fnSegJoin", fn := fun _ => fun
  | [d] => { results := [.lit (.bool true)], args := [d] }
  | _ => none }
def fnSegJoinRow : OpenClaim := { program := "ytdfoelhpeeanlaa", sum := "394706db26aa7ecc936961d27fc018223bd0cdd0a0214cd3d74fe0b8e03e487b", func := "loop.example/hatchway/laws.FnSegJoin", spec := "fnSegJoin", apart := false }
def FnSegJoinSaid : Prop := fnSegJoinRow.holds Try.pinned (OpenSpec.ofChange fnSegJoinSpec)

/-- ITS FALSE NEIGHBOUR: 'it returns false'. Refute it at one input. -/
def fnSegJoinWrong : ChangeSpec := { name := "fnSegJoin", fn := fun _ => fun
  | [d] => { results := [.lit (.bool false)], args := [d] }
  | _ => none }
def FnSegJoinWrongFalsely : Prop := fnSegJoinRow.holds Try.pinned (OpenSpec.ofChange fnSegJoinWrong)

/-- 'laws.FnExactSegCut': WHATEVER THE INPUT: true; the input reads as it did. -/
def fnExactSegCutSpec : ChangeSpec := { name := "fnExactSegCut", fn := fun _ => fun
  | [d1, d2, d3] => { results := [.lit (.bool true)], args := [d1, d2, d3] }
  | _ => none }
def fnExactSegCutRow : OpenClaim := { program := "ytdfoelhpeeanlaa", sum := "394706db26aa7ecc936961d27fc018223bd0cdd0a0214cd3d74fe0b8e03e487b", func := "loop.example/hatchway/laws.FnExactSegCut", spec := "fnExactSegCut", apart := false }
def FnExactSegCutSaid : Prop := fnExactSegCutRow.holds Try.pinned (OpenSpec.ofChange fnExactSegCutSpec)

/-- ITS FALSE NEIGHBOUR: 'it returns false'. Refute it at one input. -/
def fnExactSegCutWrong : ChangeSpec := { name := "fnExactSegCut", fn := fun _ => fun
  | [d1, d2, d3] => { results := [.lit (.bool false)], args := [d1, d2, d3] }
  | _ => none }
def FnExactSegCutWrongFalsely : Prop := fnExactSegCutRow.holds Try.pinned (OpenSpec.ofChange fnExactSegCutWrong)

/-- 'laws.FnSegCut': WHATEVER THE INPUT: true; the input reads as it did. -/
def fnSegCutSpec : ChangeSpec := { name := "fnSegCut", fn := fun _ => fun
  | [d] => { results := [.lit (.bool true)], args := [d] }
  | _ => none }
def fnSegCutRow : OpenClaim := { program := "ytdfoelhpeeanlaa", sum := "394706db26aa7ecc936961d27fc018223bd0cdd0a0214cd3d74fe0b8e03e487b", func := "loop.example/hatchway/laws.FnSegCut", spec := "fnSegCut", apart := false }
def FnSegCutSaid : Prop := fnSegCutRow.holds Try.pinned (OpenSpec.ofChange fnSegCutSpec)

/-- ITS FALSE NEIGHBOUR: 'it returns false'. Refute it at one input. -/
def fnSegCutWrong : ChangeSpec := { name := "fnSegCut", fn := fun _ => fun
  | [d] => { results := [.lit (.bool false)], args := [d] }
  | _ => none }
def FnSegCutWrongFalsely : Prop := fnSegCutRow.holds Try.pinned (OpenSpec.ofChange fnSegCutWrong)

/-- 'laws.FnSegLong': WHATEVER THE INPUT: true; the input reads as it did. -/
def fnSegLongSpec : ChangeSpec := { name := "fnSegLong", fn := fun _ => fun
  | [d1, d2] => { results := [.lit (.bool true)], args := [d1, d2] }
  | _ => none }
def fnSegLongRow : OpenClaim := { program := "ytdfoelhpeeanlaa", sum := "394706db26aa7ecc936961d27fc018223bd0cdd0a0214cd3d74fe0b8e03e487b", func := "loop.example/hatchway/laws.FnSegLong", spec := "fnSegLong", apart := false }
def FnSegLongSaid : Prop := fnSegLongRow.holds Try.pinned (OpenSpec.ofChange fnSegLongSpec)

/-- ITS FALSE NEIGHBOUR: 'it returns false'. Refute it at one input. -/
def fnSegLongWrong : ChangeSpec := { name := "fnSegLong", fn := fun _ => fun
  | [d1, d2] => { results := [.lit (.bool false)], args := [d1, d2] }
  | _ => none }
def FnSegLongWrongFalsely : Prop := fnSegLongRow.holds Try.pinned (OpenSpec.ofChange fnSegLongWrong)

/- THE SECOND FORM. 'bulk': how many values and letters a reading holds, each counted each time it is reached (what is shared counts as often as it is met; a slice's spare places count too). A statement '..UptoSaid' is the law's where the arguments, and the package variables that the reading takes, are together of bulk at most 1048576: NARROWER than '..Said'. Prove '..Said' where nothing that the law and all that it calls make is longer than what came in: it says more and counts as full. Else prove '..UptoSaid'. A law counts once. -/
mutual
def uptoBulk {H : Type} : DataW H → Nat
  | .lit (.string bytes) => bytes.length + 1
  | .lit _ => 1
  | .nil => 1
  | .ptr d => uptoBulk d + 1
  | .slice elems spare => uptoBulkAll elems + uptoBulkAll spare + 1
  | .agg parts => uptoBulkAll parts + 1
  | .iface _ d => uptoBulk d + 1
  | .map entries => uptoBulkEntries entries + 1
  | .held _ => 1
def uptoBulkAll {H : Type} : List (DataW H) → Nat
  | [] => 0
  | d :: r => uptoBulk d + uptoBulkAll r
def uptoBulkEntries {H : Type} : List (Lit × DataW H) → Nat
  | [] => 0
  | x :: r => uptoBulkEntry x + uptoBulkEntries r
def uptoBulkEntry {H : Type} : Lit × DataW H → Nat
  | (.string bytes, d) => bytes.length + uptoBulk d + 1
  | (_, d) => uptoBulk d + 1
 end
def uptoSmall : (H : Type) → List (DataW H) → Bool := fun _ ds => decide (uptoBulkAll ds ≤ 1048576)
def OpenSpec.upto (s : _root_.Go.ChangeSpec) : _root_.Go.OpenSpec := { _root_.Go.OpenSpec.ofChange s with cond := some uptoSmall }

/-- 'laws.FnExactSegBytes', WHERE WHAT IT READS IS OF BULK AT MOST 1048576: true; the input reads as it did. -/
def fnExactSegBytesUptoRow : OpenClaim := { program := "ytdfoelhpeeanlaa", sum := "394706db26aa7ecc936961d27fc018223bd0cdd0a0214cd3d74fe0b8e03e487b", func := "loop.example/hatchway/laws.FnExactSegBytes", spec := "fnExactSegBytes", apart := false, narrowed := true }
def FnExactSegBytesUptoSaid : Prop := fnExactSegBytesUptoRow.holds Try.pinned (OpenSpec.upto fnExactSegBytesSpec)

/-- 'laws.FnSegOk', WHERE WHAT IT READS IS OF BULK AT MOST 1048576: true; the input reads as it did. -/
def fnSegOkUptoRow : OpenClaim := { program := "ytdfoelhpeeanlaa", sum := "394706db26aa7ecc936961d27fc018223bd0cdd0a0214cd3d74fe0b8e03e487b", func := "loop.example/hatchway/laws.FnSegOk", spec := "fnSegOk", apart := false, narrowed := true }
def FnSegOkUptoSaid : Prop := fnSegOkUptoRow.holds Try.pinned (OpenSpec.upto fnSegOkSpec)

/-- 'laws.FnSegAdd', WHERE WHAT IT READS IS OF BULK AT MOST 1048576: true; the input reads as it did. -/
def fnSegAddUptoRow : OpenClaim := { program := "ytdfoelhpeeanlaa", sum := "394706db26aa7ecc936961d27fc018223bd0cdd0a0214cd3d74fe0b8e03e487b", func := "loop.example/hatchway/laws.FnSegAdd", spec := "fnSegAdd", apart := false, narrowed := true }
def FnSegAddUptoSaid : Prop := fnSegAddUptoRow.holds Try.pinned (OpenSpec.upto fnSegAddSpec)

/-- 'laws.FnSegSum', WHERE WHAT IT READS IS OF BULK AT MOST 1048576: true; the input reads as it did. -/
def fnSegSumUptoRow : OpenClaim := { program := "ytdfoelhpeeanlaa", sum := "394706db26aa7ecc936961d27fc018223bd0cdd0a0214cd3d74fe0b8e03e487b", func := "loop.example/hatchway/laws.FnSegSum", spec := "fnSegSum", apart := false, narrowed := true }
def FnSegSumUptoSaid : Prop := fnSegSumUptoRow.holds Try.pinned (OpenSpec.upto fnSegSumSpec)

/-- 'laws.FnSegJoin', WHERE WHAT IT READS IS OF BULK AT MOST 1048576: true; the input reads as it did. -/
def fnSegJoinUptoRow : OpenClaim := { program := "ytdfoelhpeeanlaa", sum := "394706db26aa7ecc936961d27fc018223bd0cdd0a0214cd3d74fe0b8e03e487b", func := "loop.example/hatchway/laws.FnSegJoin", spec := "fnSegJoin", apart := false, narrowed := true }
def FnSegJoinUptoSaid : Prop := fnSegJoinUptoRow.holds Try.pinned (OpenSpec.upto fnSegJoinSpec)

/-- 'laws.FnExactSegCut', WHERE WHAT IT READS IS OF BULK AT MOST 1048576: true; the input reads as it did. -/
def fnExactSegCutUptoRow : OpenClaim := { program := "ytdfoelhpeeanlaa", sum := "394706db26aa7ecc936961d27fc018223bd0cdd0a0214cd3d74fe0b8e03e487b", func := "loop.example/hatchway/laws.FnExactSegCut", spec := "fnExactSegCut", apart := false, narrowed := true }
def FnExactSegCutUptoSaid : Prop := fnExactSegCutUptoRow.holds Try.pinned (OpenSpec.upto fnExactSegCutSpec)

/-- 'laws.FnSegCut', WHERE WHAT IT READS IS OF BULK AT MOST 1048576: true; the input reads as it did. -/
def fnSegCutUptoRow : OpenClaim := { program := "ytdfoelhpeeanlaa", sum := "394706db26aa7ecc936961d27fc018223bd0cdd0a0214cd3d74fe0b8e03e487b", func := "loop.example/hatchway/laws.FnSegCut", spec := "fnSegCut", apart := false, narrowed := true }
def FnSegCutUptoSaid : Prop := fnSegCutUptoRow.holds Try.pinned (OpenSpec.upto fnSegCutSpec)

/-- 'laws.FnSegLong', WHERE WHAT IT READS IS OF BULK AT MOST 1048576: true; the input reads as it did. -/
def fnSegLongUptoRow : OpenClaim := { program := "ytdfoelhpeeanlaa", sum := "394706db26aa7ecc936961d27fc018223bd0cdd0a0214cd3d74fe0b8e03e487b", func := "loop.example/hatchway/laws.FnSegLong", spec := "fnSegLong", apart := false, narrowed := true }
def FnSegLongUptoSaid : Prop := fnSegLongUptoRow.holds Try.pinned (OpenSpec.upto fnSegLongSpec)

end Rows
end Go.Proofs.Ytdfoelhpeeanlaa
