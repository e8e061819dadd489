/-
  DERIVED. GIVEN WITH THE SEED: THE CARDS: each row of YtlofgoahgnllkaaDoorRows.lean that lists a variable, with what it lists TIED to the program's text (the seventh form; the later family's looks); each row that meets fmt, with fmt's text TOLD by the authors' own Lean function (tested against real Go, not proved from fmt's source: count such statements apart). THE CARD IS WHAT COUNTS. Prove the row's statement (the work); the ties are given (YtlofgoahgnllkaaDoorTie.lean); close each card by the builder's one call (the guide's Derived/Test/ToyasCard.lean, 'card_holds'). Laid BY PROGRAM, IN A SANDBOX (cutbox-door.mjs). By AI agents, Wed Nov 11 2026. No macro, syntax, notation, axiom, sorry.
-/
import Derived.Test.YtlofgoahgnllkaaDoorRows
import GoSem.ClaimSeven
namespace Go.Proofs.YtlofgoahgnllkaaDoor
namespace Rows

/-- THE TIED CARD OF 'laws.FnExactBakLine'. -/
def fnExactBakLineCard : Claim7 := { stood := { row := fnExactBakLineRow, standIns := [], harness := (true, "fdc7a64ad4d086c2948ce7bf29c187177b2c8f5ef5918b6f4b7bd1d2f1efb23a"), looks := true }, kinds := [], alts := [], laidByText := true, laidKinds := [.data, .data, .data, .sentinel, .sentinel, .sentinel], laidTests := true, laidLooks := .later }
def FnExactBakLineCardSaid : Prop := Claim7.holds Tryd.pinned (.plain (OpenSpec.ofChange fnExactBakLineSpec)) fnExactBakLineCard

/-- THE TIED CARD OF 'laws.FnBakAgain'. -/
def fnBakAgainCard : Claim7 := { stood := { row := fnBakAgainRow, standIns := [], harness := (true, "fdc7a64ad4d086c2948ce7bf29c187177b2c8f5ef5918b6f4b7bd1d2f1efb23a"), looks := true }, kinds := [], alts := [], laidByText := true, laidKinds := [.data, .data, .data, .sentinel, .sentinel, .sentinel], laidTests := true, laidLooks := .later }
def FnBakAgainCardSaid : Prop := Claim7.holds Tryd.pinned (.plain (OpenSpec.ofChange fnBakAgainSpec)) fnBakAgainCard

/-- THE TIED CARD OF 'laws.FnBakLine'. -/
def fnBakLineCard : Claim7 := { stood := { row := fnBakLineRow, standIns := [], harness := (true, "fdc7a64ad4d086c2948ce7bf29c187177b2c8f5ef5918b6f4b7bd1d2f1efb23a"), looks := true }, kinds := [], alts := [], laidByText := true, laidKinds := [.data, .data, .data, .sentinel, .sentinel, .sentinel], laidTests := true, laidLooks := .later }
def FnBakLineCardSaid : Prop := Claim7.holds Tryd.pinned (.plain (OpenSpec.ofChange fnBakLineSpec)) fnBakLineCard

/-- THE TIED CARD OF 'laws.FnExactEndText'. -/
def fnExactEndTextCard : Claim7 := { stood := { row := fnExactEndTextRow, standIns := [], harness := (true, "fdc7a64ad4d086c2948ce7bf29c187177b2c8f5ef5918b6f4b7bd1d2f1efb23a"), looks := true }, kinds := [], alts := [], laidByText := true, laidKinds := [.data, .data, .data], laidTests := true, laidLooks := .later }
def FnExactEndTextCardSaid : Prop := Claim7.holds Tryd.pinned (.plain (OpenSpec.ofChange fnExactEndTextSpec)) fnExactEndTextCard

/-- THE TIED CARD OF 'laws.FnExactLinPort'. -/
def fnExactLinPortCard : Claim7 := { stood := { row := fnExactLinPortRow, standIns := [], harness := (true, "fdc7a64ad4d086c2948ce7bf29c187177b2c8f5ef5918b6f4b7bd1d2f1efb23a"), looks := true }, kinds := [], alts := [], laidByText := true, laidKinds := [.data, .data, .data], laidTests := true, laidLooks := .later }
def FnExactLinPortCardSaid : Prop := Claim7.holds Tryd.pinned (.plain (OpenSpec.ofChange fnExactLinPortSpec)) fnExactLinPortCard

/-- THE TIED CARD OF 'laws.FnExactEndRead'. -/
def fnExactEndReadCard : Claim7 := { stood := { row := fnExactEndReadRow, standIns := [], harness := (true, "fdc7a64ad4d086c2948ce7bf29c187177b2c8f5ef5918b6f4b7bd1d2f1efb23a"), looks := true }, kinds := [], alts := [], laidByText := true, laidKinds := [.data, .data, .data, .sentinel, .sentinel, .sentinel], laidTests := true, laidLooks := .later }
def FnExactEndReadCardSaid : Prop := Claim7.holds Tryd.pinned (.plain (OpenSpec.ofChange fnExactEndReadSpec)) fnExactEndReadCard

/-- THE TIED CARD OF 'laws.FnExactLinBox'. -/
def fnExactLinBoxCard : Claim7 := { stood := { row := fnExactLinBoxRow, standIns := [], harness := (true, "fdc7a64ad4d086c2948ce7bf29c187177b2c8f5ef5918b6f4b7bd1d2f1efb23a"), looks := true }, kinds := [], alts := [], laidByText := true, laidKinds := [.data, .data, .data, .sentinel, .sentinel, .sentinel], laidTests := true, laidLooks := .later }
def FnExactLinBoxCardSaid : Prop := Claim7.holds Tryd.pinned (.plain (OpenSpec.ofChange fnExactLinBoxSpec)) fnExactLinBoxCard

/-- THE TIED CARD OF 'laws.FnExactLinSays'. -/
def fnExactLinSaysCard : Claim7 := { stood := { row := fnExactLinSaysRow, standIns := [], harness := (true, "fdc7a64ad4d086c2948ce7bf29c187177b2c8f5ef5918b6f4b7bd1d2f1efb23a"), looks := true }, kinds := [], alts := [], laidByText := true, laidKinds := [.data, .data, .data, .sentinel, .sentinel, .sentinel], laidTests := true, laidLooks := .later }
def FnExactLinSaysCardSaid : Prop := Claim7.holds Tryd.pinned (.plain (OpenSpec.ofChange fnExactLinSaysSpec)) fnExactLinSaysCard

/-- THE TIED CARD OF 'laws.FnLinShort'. -/
def fnLinShortCard : Claim7 := { stood := { row := fnLinShortRow, standIns := [], harness := (true, "fdc7a64ad4d086c2948ce7bf29c187177b2c8f5ef5918b6f4b7bd1d2f1efb23a"), looks := true }, kinds := [], alts := [], laidByText := true, laidKinds := [.data, .data, .data, .sentinel, .sentinel, .sentinel], laidTests := true, laidLooks := .later }
def FnLinShortCardSaid : Prop := Claim7.holds Tryd.pinned (.plain (OpenSpec.ofChange fnLinShortSpec)) fnLinShortCard

/-- THE TIED CARD OF 'laws.FnEndRead'. -/
def fnEndReadCard : Claim7 := { stood := { row := fnEndReadRow, standIns := [], harness := (true, "fdc7a64ad4d086c2948ce7bf29c187177b2c8f5ef5918b6f4b7bd1d2f1efb23a"), looks := true }, kinds := [], alts := [], laidByText := true, laidKinds := [.data, .data, .data, .sentinel, .sentinel, .sentinel], laidTests := true, laidLooks := .later }
def FnEndReadCardSaid : Prop := Claim7.holds Tryd.pinned (.plain (OpenSpec.ofChange fnEndReadSpec)) fnEndReadCard

/-- THE TIED CARD OF 'laws.FnEndText'. -/
def fnEndTextCard : Claim7 := { stood := { row := fnEndTextRow, standIns := [], harness := (true, "fdc7a64ad4d086c2948ce7bf29c187177b2c8f5ef5918b6f4b7bd1d2f1efb23a"), looks := true }, kinds := [], alts := [], laidByText := true, laidKinds := [.data, .data, .data, .sentinel, .sentinel, .sentinel], laidTests := true, laidLooks := .later }
def FnEndTextCardSaid : Prop := Claim7.holds Tryd.pinned (.plain (OpenSpec.ofChange fnEndTextSpec)) fnEndTextCard

/-- THE TIED CARD OF 'laws.FnLinBox'. -/
def fnLinBoxCard : Claim7 := { stood := { row := fnLinBoxRow, standIns := [], harness := (true, "fdc7a64ad4d086c2948ce7bf29c187177b2c8f5ef5918b6f4b7bd1d2f1efb23a"), looks := true }, kinds := [], alts := [], laidByText := true, laidKinds := [.data, .data, .data, .sentinel, .sentinel, .sentinel], laidTests := true, laidLooks := .later }
def FnLinBoxCardSaid : Prop := Claim7.holds Tryd.pinned (.plain (OpenSpec.ofChange fnLinBoxSpec)) fnLinBoxCard

/-- THE TIED CARD OF 'laws.FnLinSays'. -/
def fnLinSaysCard : Claim7 := { stood := { row := fnLinSaysRow, standIns := [], harness := (true, "fdc7a64ad4d086c2948ce7bf29c187177b2c8f5ef5918b6f4b7bd1d2f1efb23a"), looks := true }, kinds := [], alts := [], laidByText := true, laidKinds := [.data, .data, .data, .sentinel, .sentinel, .sentinel], laidTests := true, laidLooks := .later }
def FnLinSaysCardSaid : Prop := Claim7.holds Tryd.pinned (.plain (OpenSpec.ofChange fnLinSaysSpec)) fnLinSaysCard

/-- THE SECOND FORM's CARD OF 'laws.FnExactBakLine'. -/
def fnExactBakLineUptoCard : Claim7 := { stood := { row := fnExactBakLineUptoRow, standIns := [], harness := (true, "fdc7a64ad4d086c2948ce7bf29c187177b2c8f5ef5918b6f4b7bd1d2f1efb23a"), looks := true }, kinds := [], alts := [], laidByText := true, laidKinds := [.data, .data, .data, .sentinel, .sentinel, .sentinel], laidTests := true, laidLooks := .later }
def FnExactBakLineUptoCardSaid : Prop := Claim7.holds Tryd.pinned (.plain (OpenSpec.upto fnExactBakLineSpec)) fnExactBakLineUptoCard

/-- THE SECOND FORM's CARD OF 'laws.FnBakAgain'. -/
def fnBakAgainUptoCard : Claim7 := { stood := { row := fnBakAgainUptoRow, standIns := [], harness := (true, "fdc7a64ad4d086c2948ce7bf29c187177b2c8f5ef5918b6f4b7bd1d2f1efb23a"), looks := true }, kinds := [], alts := [], laidByText := true, laidKinds := [.data, .data, .data, .sentinel, .sentinel, .sentinel], laidTests := true, laidLooks := .later }
def FnBakAgainUptoCardSaid : Prop := Claim7.holds Tryd.pinned (.plain (OpenSpec.upto fnBakAgainSpec)) fnBakAgainUptoCard

/-- THE SECOND FORM's CARD OF 'laws.FnBakLine'. -/
def fnBakLineUptoCard : Claim7 := { stood := { row := fnBakLineUptoRow, standIns := [], harness := (true, "fdc7a64ad4d086c2948ce7bf29c187177b2c8f5ef5918b6f4b7bd1d2f1efb23a"), looks := true }, kinds := [], alts := [], laidByText := true, laidKinds := [.data, .data, .data, .sentinel, .sentinel, .sentinel], laidTests := true, laidLooks := .later }
def FnBakLineUptoCardSaid : Prop := Claim7.holds Tryd.pinned (.plain (OpenSpec.upto fnBakLineSpec)) fnBakLineUptoCard

/-- THE SECOND FORM's CARD OF 'laws.FnExactEndText'. -/
def fnExactEndTextUptoCard : Claim7 := { stood := { row := fnExactEndTextUptoRow, standIns := [], harness := (true, "fdc7a64ad4d086c2948ce7bf29c187177b2c8f5ef5918b6f4b7bd1d2f1efb23a"), looks := true }, kinds := [], alts := [], laidByText := true, laidKinds := [.data, .data, .data], laidTests := true, laidLooks := .later }
def FnExactEndTextUptoCardSaid : Prop := Claim7.holds Tryd.pinned (.plain (OpenSpec.upto fnExactEndTextSpec)) fnExactEndTextUptoCard

/-- THE SECOND FORM's CARD OF 'laws.FnExactLinPort'. -/
def fnExactLinPortUptoCard : Claim7 := { stood := { row := fnExactLinPortUptoRow, standIns := [], harness := (true, "fdc7a64ad4d086c2948ce7bf29c187177b2c8f5ef5918b6f4b7bd1d2f1efb23a"), looks := true }, kinds := [], alts := [], laidByText := true, laidKinds := [.data, .data, .data], laidTests := true, laidLooks := .later }
def FnExactLinPortUptoCardSaid : Prop := Claim7.holds Tryd.pinned (.plain (OpenSpec.upto fnExactLinPortSpec)) fnExactLinPortUptoCard

/-- THE SECOND FORM's CARD OF 'laws.FnExactEndRead'. -/
def fnExactEndReadUptoCard : Claim7 := { stood := { row := fnExactEndReadUptoRow, standIns := [], harness := (true, "fdc7a64ad4d086c2948ce7bf29c187177b2c8f5ef5918b6f4b7bd1d2f1efb23a"), looks := true }, kinds := [], alts := [], laidByText := true, laidKinds := [.data, .data, .data, .sentinel, .sentinel, .sentinel], laidTests := true, laidLooks := .later }
def FnExactEndReadUptoCardSaid : Prop := Claim7.holds Tryd.pinned (.plain (OpenSpec.upto fnExactEndReadSpec)) fnExactEndReadUptoCard

/-- THE SECOND FORM's CARD OF 'laws.FnExactLinBox'. -/
def fnExactLinBoxUptoCard : Claim7 := { stood := { row := fnExactLinBoxUptoRow, standIns := [], harness := (true, "fdc7a64ad4d086c2948ce7bf29c187177b2c8f5ef5918b6f4b7bd1d2f1efb23a"), looks := true }, kinds := [], alts := [], laidByText := true, laidKinds := [.data, .data, .data, .sentinel, .sentinel, .sentinel], laidTests := true, laidLooks := .later }
def FnExactLinBoxUptoCardSaid : Prop := Claim7.holds Tryd.pinned (.plain (OpenSpec.upto fnExactLinBoxSpec)) fnExactLinBoxUptoCard

/-- THE SECOND FORM's CARD OF 'laws.FnExactLinSays'. -/
def fnExactLinSaysUptoCard : Claim7 := { stood := { row := fnExactLinSaysUptoRow, standIns := [], harness := (true, "fdc7a64ad4d086c2948ce7bf29c187177b2c8f5ef5918b6f4b7bd1d2f1efb23a"), looks := true }, kinds := [], alts := [], laidByText := true, laidKinds := [.data, .data, .data, .sentinel, .sentinel, .sentinel], laidTests := true, laidLooks := .later }
def FnExactLinSaysUptoCardSaid : Prop := Claim7.holds Tryd.pinned (.plain (OpenSpec.upto fnExactLinSaysSpec)) fnExactLinSaysUptoCard

/-- THE SECOND FORM's CARD OF 'laws.FnLinShort'. -/
def fnLinShortUptoCard : Claim7 := { stood := { row := fnLinShortUptoRow, standIns := [], harness := (true, "fdc7a64ad4d086c2948ce7bf29c187177b2c8f5ef5918b6f4b7bd1d2f1efb23a"), looks := true }, kinds := [], alts := [], laidByText := true, laidKinds := [.data, .data, .data, .sentinel, .sentinel, .sentinel], laidTests := true, laidLooks := .later }
def FnLinShortUptoCardSaid : Prop := Claim7.holds Tryd.pinned (.plain (OpenSpec.upto fnLinShortSpec)) fnLinShortUptoCard

/-- THE SECOND FORM's CARD OF 'laws.FnEndRead'. -/
def fnEndReadUptoCard : Claim7 := { stood := { row := fnEndReadUptoRow, standIns := [], harness := (true, "fdc7a64ad4d086c2948ce7bf29c187177b2c8f5ef5918b6f4b7bd1d2f1efb23a"), looks := true }, kinds := [], alts := [], laidByText := true, laidKinds := [.data, .data, .data, .sentinel, .sentinel, .sentinel], laidTests := true, laidLooks := .later }
def FnEndReadUptoCardSaid : Prop := Claim7.holds Tryd.pinned (.plain (OpenSpec.upto fnEndReadSpec)) fnEndReadUptoCard

/-- THE SECOND FORM's CARD OF 'laws.FnEndText'. -/
def fnEndTextUptoCard : Claim7 := { stood := { row := fnEndTextUptoRow, standIns := [], harness := (true, "fdc7a64ad4d086c2948ce7bf29c187177b2c8f5ef5918b6f4b7bd1d2f1efb23a"), looks := true }, kinds := [], alts := [], laidByText := true, laidKinds := [.data, .data, .data, .sentinel, .sentinel, .sentinel], laidTests := true, laidLooks := .later }
def FnEndTextUptoCardSaid : Prop := Claim7.holds Tryd.pinned (.plain (OpenSpec.upto fnEndTextSpec)) fnEndTextUptoCard

/-- THE SECOND FORM's CARD OF 'laws.FnLinBox'. -/
def fnLinBoxUptoCard : Claim7 := { stood := { row := fnLinBoxUptoRow, standIns := [], harness := (true, "fdc7a64ad4d086c2948ce7bf29c187177b2c8f5ef5918b6f4b7bd1d2f1efb23a"), looks := true }, kinds := [], alts := [], laidByText := true, laidKinds := [.data, .data, .data, .sentinel, .sentinel, .sentinel], laidTests := true, laidLooks := .later }
def FnLinBoxUptoCardSaid : Prop := Claim7.holds Tryd.pinned (.plain (OpenSpec.upto fnLinBoxSpec)) fnLinBoxUptoCard

/-- THE SECOND FORM's CARD OF 'laws.FnLinSays'. -/
def fnLinSaysUptoCard : Claim7 := { stood := { row := fnLinSaysUptoRow, standIns := [], harness := (true, "fdc7a64ad4d086c2948ce7bf29c187177b2c8f5ef5918b6f4b7bd1d2f1efb23a"), looks := true }, kinds := [], alts := [], laidByText := true, laidKinds := [.data, .data, .data, .sentinel, .sentinel, .sentinel], laidTests := true, laidLooks := .later }
def FnLinSaysUptoCardSaid : Prop := Claim7.holds Tryd.pinned (.plain (OpenSpec.upto fnLinSaysSpec)) fnLinSaysUptoCard
end Rows
end Go.Proofs.YtlofgoahgnllkaaDoor
