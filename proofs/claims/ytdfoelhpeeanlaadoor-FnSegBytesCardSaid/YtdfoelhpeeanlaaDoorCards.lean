/-
  DERIVED. GIVEN WITH THE SEED: THE CARDS: each row of YtdfoelhpeeanlaaDoorRows.lean that lists a variable, with what it lists TIED to the program's text (the seventh form; the later family's looks); each row that meets fmt, with fmt's text TOLD by the authors' own Lean function (tested against real Go, not proved from fmt's source: count such statements apart). THE CARD IS WHAT COUNTS. Prove the row's statement (the work); the ties are given (YtdfoelhpeeanlaaDoorTie.lean); close each card by the builder's one call (the guide's Derived/Test/ToyasCard.lean, 'card_holds'). Laid BY PROGRAM, IN A SANDBOX (cutbox-door.mjs). By AI agents, Wed Nov 11 2026. No macro, syntax, notation, axiom, sorry.
-/
import Derived.Test.YtdfoelhpeeanlaaDoorRows
import GoSem.ClaimSeven
namespace Go.Proofs.YtdfoelhpeeanlaaDoor
namespace Rows

/-- THE TIED CARD OF 'laws.FnExactSegRead'. -/
def fnExactSegReadCard : Claim7 := { stood := { row := fnExactSegReadRow, standIns := [], harness := (true, "d4d493e26a76faffde22cee8f10626bca195cf047abb2ba35ea509eaf8c076c0"), looks := false }, kinds := [], alts := [], laidByText := true, laidKinds := [.sentinel], laidTests := true, laidLooks := .later }
def FnExactSegReadCardSaid : Prop := Claim7.holds Tryd.pinned (.plain (OpenSpec.ofChange fnExactSegReadSpec)) fnExactSegReadCard

/-- THE TIED CARD OF 'laws.FnSegBytes'. -/
def fnSegBytesCard : Claim7 := { stood := { row := fnSegBytesRow, standIns := [], harness := (true, "d4d493e26a76faffde22cee8f10626bca195cf047abb2ba35ea509eaf8c076c0"), looks := false }, kinds := [], alts := [], laidByText := true, laidKinds := [.sentinel], laidTests := true, laidLooks := .later }
def FnSegBytesCardSaid : Prop := Claim7.holds Tryd.pinned (.plain (OpenSpec.ofChange fnSegBytesSpec)) fnSegBytesCard

/-- THE TIED CARD OF 'laws.FnSegRead'. -/
def fnSegReadCard : Claim7 := { stood := { row := fnSegReadRow, standIns := [], harness := (true, "d4d493e26a76faffde22cee8f10626bca195cf047abb2ba35ea509eaf8c076c0"), looks := false }, kinds := [], alts := [], laidByText := true, laidKinds := [.sentinel], laidTests := true, laidLooks := .later }
def FnSegReadCardSaid : Prop := Claim7.holds Tryd.pinned (.plain (OpenSpec.ofChange fnSegReadSpec)) fnSegReadCard

/-- THE SECOND FORM's CARD OF 'laws.FnExactSegRead'. -/
def fnExactSegReadUptoCard : Claim7 := { stood := { row := fnExactSegReadUptoRow, standIns := [], harness := (true, "d4d493e26a76faffde22cee8f10626bca195cf047abb2ba35ea509eaf8c076c0"), looks := false }, kinds := [], alts := [], laidByText := true, laidKinds := [.sentinel], laidTests := true, laidLooks := .later }
def FnExactSegReadUptoCardSaid : Prop := Claim7.holds Tryd.pinned (.plain (OpenSpec.upto fnExactSegReadSpec)) fnExactSegReadUptoCard

/-- THE SECOND FORM's CARD OF 'laws.FnSegBytes'. -/
def fnSegBytesUptoCard : Claim7 := { stood := { row := fnSegBytesUptoRow, standIns := [], harness := (true, "d4d493e26a76faffde22cee8f10626bca195cf047abb2ba35ea509eaf8c076c0"), looks := false }, kinds := [], alts := [], laidByText := true, laidKinds := [.sentinel], laidTests := true, laidLooks := .later }
def FnSegBytesUptoCardSaid : Prop := Claim7.holds Tryd.pinned (.plain (OpenSpec.upto fnSegBytesSpec)) fnSegBytesUptoCard

/-- THE SECOND FORM's CARD OF 'laws.FnSegRead'. -/
def fnSegReadUptoCard : Claim7 := { stood := { row := fnSegReadUptoRow, standIns := [], harness := (true, "d4d493e26a76faffde22cee8f10626bca195cf047abb2ba35ea509eaf8c076c0"), looks := false }, kinds := [], alts := [], laidByText := true, laidKinds := [.sentinel], laidTests := true, laidLooks := .later }
def FnSegReadUptoCardSaid : Prop := Claim7.holds Tryd.pinned (.plain (OpenSpec.upto fnSegReadSpec)) fnSegReadUptoCard
end Rows
end Go.Proofs.YtdfoelhpeeanlaaDoor
