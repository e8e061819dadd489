/-
  NARROWER THAN 'FOR EVERY INPUT', by the rows' own cells (each row's printed sentence says how): FnExactSegRead: ifaces, laid · FnSegBytes: ifaces, laid · FnSegRead: ifaces, laid.
  DERIVED. THE GIVEN ROWS OF THIS SEAT. 3 by the template 'for every input the law returns true; each argument reads behind the call as it read before'; 0 by the template 'total and deterministic' (their statements: YtdfoelhpeeanlaaDoorTotals.lean).
  GIVEN WITH THE SEED: the statements are not yours to turn. If you find one false, say at which input.
  Laid BY PROGRAM, IN A SANDBOX (cutbox-rows.mjs): the forced cells as the released guide's own fill.sh prints them over the translation 7a9b883a5cb0c25f… (all of the seat's roots in one cut). By AI agents, Wed Nov 11 2026. No macro, syntax, notation, axiom, sorry.
-/
import Derived.Test.YtdfoelhpeeanlaaDoorChecked
import GoSem.Claim
import GoSem.ClaimJoined
import GoSem.ClaimMapViews
import Derived.JoinedTies
import Derived.KernelRfl
namespace Go.Proofs.YtdfoelhpeeanlaaDoor
/- THE CELL 'sum', in the pinned program and in every row, IS THE sha256 OF THE DUMP (.gsa) THAT YtdfoelhpeeanlaaDoorProg.lean LOADS. Nothing in Lean hashes anything: it is a label: what it is worth is what the hold of that sum in a sandbox is worth. -/
noncomputable def Tryd.pinned : Pinned := { name := "ytdfoelhpeeanlaadoor", sum := "7a9b883a5cb0c25f4fc5391ea83c8e7d93c5fe0894191f457f2b4655ef23445e", checked := Tryd.checked }
namespace Rows
def none {H : Type} : Left H := { results := [], args := [] }

/- WHAT THE LISTED PACKAGE-LEVEL VARIABLES READ AS WHEN THE CALL BEGINS. Each datum BY PROGRAM (the guide's laid-datum.mjs) off the statement by which the dump's own 'gosem.cut.vars' lays the variable. In a bare row this is a premise. The card (YtdfoelhpeeanlaaDoorCards.lean) ties it to the program's text. -/
def laid_loop_example_hatchway_impl_errShort {H : Type} : DataW H := .iface "*errors.errorString" (.ptr (.agg [.lit (.string [115, 104, 111, 114, 116])]))

/-- 'laws.FnExactSegRead': WHATEVER THE INPUT: true; the input reads as it did. -/
def fnExactSegReadSpec : ChangeSpec := { name := "fnExactSegRead", vars := ["loop.example/hatchway/impl.errShort"], fn := fun _ => fun
  | [d, g1] => { results := [.lit (.bool true)], args := [d], vars := [g1] }
  | _ => none }
def fnExactSegReadRow : OpenClaim := { program := "ytdfoelhpeeanlaadoor", sum := "7a9b883a5cb0c25f4fc5391ea83c8e7d93c5fe0894191f457f2b4655ef23445e", func := "loop.example/hatchway/laws.FnExactSegRead", spec := "fnExactSegRead", named := ["loop.example/hatchway/impl.errShort"], ifaces := true, apart := false, laid := [("loop.example/hatchway/impl.errShort", laid_loop_example_hatchway_impl_errShort)] }
def FnExactSegReadSaid : Prop := fnExactSegReadRow.holds Tryd.pinned (OpenSpec.ofChange fnExactSegReadSpec)

/-- ITS FALSE NEIGHBOUR: 'it returns false'. Refute it at one input. -/
def fnExactSegReadWrong : ChangeSpec := { name := "fnExactSegRead", vars := ["loop.example/hatchway/impl.errShort"], fn := fun _ => fun
  | [d, g1] => { results := [.lit (.bool false)], args := [d], vars := [g1] }
  | _ => none }
def FnExactSegReadWrongFalsely : Prop := fnExactSegReadRow.holds Tryd.pinned (OpenSpec.ofChange fnExactSegReadWrong)

/-- 'laws.FnSegBytes': WHATEVER THE INPUT: true; the input reads as it did. -/
def fnSegBytesSpec : ChangeSpec := { name := "fnSegBytes", vars := ["loop.example/hatchway/impl.errShort"], fn := fun _ => fun
  | [d1, d2, g1] => { results := [.lit (.bool true)], args := [d1, d2], vars := [g1] }
  | _ => none }
def fnSegBytesRow : OpenClaim := { program := "ytdfoelhpeeanlaadoor", sum := "7a9b883a5cb0c25f4fc5391ea83c8e7d93c5fe0894191f457f2b4655ef23445e", func := "loop.example/hatchway/laws.FnSegBytes", spec := "fnSegBytes", named := ["loop.example/hatchway/impl.errShort"], ifaces := true, apart := false, laid := [("loop.example/hatchway/impl.errShort", laid_loop_example_hatchway_impl_errShort)] }
def FnSegBytesSaid : Prop := fnSegBytesRow.holds Tryd.pinned (OpenSpec.ofChange fnSegBytesSpec)

/-- ITS FALSE NEIGHBOUR: 'it returns false'. Refute it at one input. -/
def fnSegBytesWrong : ChangeSpec := { name := "fnSegBytes", vars := ["loop.example/hatchway/impl.errShort"], fn := fun _ => fun
  | [d1, d2, g1] => { results := [.lit (.bool false)], args := [d1, d2], vars := [g1] }
  | _ => none }
def FnSegBytesWrongFalsely : Prop := fnSegBytesRow.holds Tryd.pinned (OpenSpec.ofChange fnSegBytesWrong)

/-- 'laws.FnSegRead': WHATEVER THE INPUT: true; the input reads as it did. -/
def fnSegReadSpec : ChangeSpec := { name := "fnSegRead", vars := ["loop.example/hatchway/impl.errShort"], fn := fun _ => fun
  | [d, g1] => { results := [.lit (.bool true)], args := [d], vars := [g1] }
  | _ => none }
def fnSegReadRow : OpenClaim := { program := "ytdfoelhpeeanlaadoor", sum := "7a9b883a5cb0c25f4fc5391ea83c8e7d93c5fe0894191f457f2b4655ef23445e", func := "loop.example/hatchway/laws.FnSegRead", spec := "fnSegRead", named := ["loop.example/hatchway/impl.errShort"], ifaces := true, apart := false, laid := [("loop.example/hatchway/impl.errShort", laid_loop_example_hatchway_impl_errShort)] }
def FnSegReadSaid : Prop := fnSegReadRow.holds Tryd.pinned (OpenSpec.ofChange fnSegReadSpec)

/-- ITS FALSE NEIGHBOUR: 'it returns false'. Refute it at one input. -/
def fnSegReadWrong : ChangeSpec := { name := "fnSegRead", vars := ["loop.example/hatchway/impl.errShort"], fn := fun _ => fun
  | [d, g1] => { results := [.lit (.bool false)], args := [d], vars := [g1] }
  | _ => none }
def FnSegReadWrongFalsely : Prop := fnSegReadRow.holds Tryd.pinned (OpenSpec.ofChange fnSegReadWrong)

/- THE SECOND FORM. 'bulk': how many values and letters a reading holds, each counted each time it is reached (what is shared counts as often as it is met; a slice's spare places count too). A statement '..UptoSaid' is the law's where the arguments, and the package variables that the reading takes, are together of bulk at most 1048576: NARROWER than '..Said'. Prove '..Said' where nothing that the law and all that it calls make is longer than what came in: it says more and counts as full. Else prove '..UptoSaid'. A law counts once. -/
mutual
def uptoBulk {H : Type} : DataW H → Nat
  | .lit (.string bytes) => bytes.length + 1
  | .lit _ => 1
  | .nil => 1
  | .ptr d => uptoBulk d + 1
  | .slice elems spare => uptoBulkAll elems + uptoBulkAll spare + 1
  | .agg parts => uptoBulkAll parts + 1
  | .iface _ d => uptoBulk d + 1
  | .map entries => uptoBulkEntries entries + 1
  | .held _ => 1
def uptoBulkAll {H : Type} : List (DataW H) → Nat
  | [] => 0
  | d :: r => uptoBulk d + uptoBulkAll r
def uptoBulkEntries {H : Type} : List (Lit × DataW H) → Nat
  | [] => 0
  | x :: r => uptoBulkEntry x + uptoBulkEntries r
def uptoBulkEntry {H : Type} : Lit × DataW H → Nat
  | (.string bytes, d) => bytes.length + uptoBulk d + 1
  | (_, d) => uptoBulk d + 1
 end
def uptoSmall : (H : Type) → List (DataW H) → Bool := fun _ ds => decide (uptoBulkAll ds ≤ 1048576)
def OpenSpec.upto (s : _root_.Go.ChangeSpec) : _root_.Go.OpenSpec := { _root_.Go.OpenSpec.ofChange s with cond := some uptoSmall }

/-- 'laws.FnExactSegRead', WHERE WHAT IT READS IS OF BULK AT MOST 1048576: true; the input reads as it did. -/
def fnExactSegReadUptoRow : OpenClaim := { program := "ytdfoelhpeeanlaadoor", sum := "7a9b883a5cb0c25f4fc5391ea83c8e7d93c5fe0894191f457f2b4655ef23445e", func := "loop.example/hatchway/laws.FnExactSegRead", spec := "fnExactSegRead", named := ["loop.example/hatchway/impl.errShort"], ifaces := true, apart := false, laid := [("loop.example/hatchway/impl.errShort", laid_loop_example_hatchway_impl_errShort)], narrowed := true }
def FnExactSegReadUptoSaid : Prop := fnExactSegReadUptoRow.holds Tryd.pinned (OpenSpec.upto fnExactSegReadSpec)

/-- 'laws.FnSegBytes', WHERE WHAT IT READS IS OF BULK AT MOST 1048576: true; the input reads as it did. -/
def fnSegBytesUptoRow : OpenClaim := { program := "ytdfoelhpeeanlaadoor", sum := "7a9b883a5cb0c25f4fc5391ea83c8e7d93c5fe0894191f457f2b4655ef23445e", func := "loop.example/hatchway/laws.FnSegBytes", spec := "fnSegBytes", named := ["loop.example/hatchway/impl.errShort"], ifaces := true, apart := false, laid := [("loop.example/hatchway/impl.errShort", laid_loop_example_hatchway_impl_errShort)], narrowed := true }
def FnSegBytesUptoSaid : Prop := fnSegBytesUptoRow.holds Tryd.pinned (OpenSpec.upto fnSegBytesSpec)

/-- 'laws.FnSegRead', WHERE WHAT IT READS IS OF BULK AT MOST 1048576: true; the input reads as it did. -/
def fnSegReadUptoRow : OpenClaim := { program := "ytdfoelhpeeanlaadoor", sum := "7a9b883a5cb0c25f4fc5391ea83c8e7d93c5fe0894191f457f2b4655ef23445e", func := "loop.example/hatchway/laws.FnSegRead", spec := "fnSegRead", named := ["loop.example/hatchway/impl.errShort"], ifaces := true, apart := false, laid := [("loop.example/hatchway/impl.errShort", laid_loop_example_hatchway_impl_errShort)], narrowed := true }
def FnSegReadUptoSaid : Prop := fnSegReadUptoRow.holds Tryd.pinned (OpenSpec.upto fnSegReadSpec)

end Rows
end Go.Proofs.YtdfoelhpeeanlaaDoor
