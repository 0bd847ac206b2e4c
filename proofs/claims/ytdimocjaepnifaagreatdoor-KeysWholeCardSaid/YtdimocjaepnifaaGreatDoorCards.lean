/-
  DERIVED. GIVEN WITH THE SEED: THE CARDS: each row of YtdimocjaepnifaaGreatDoorRows.lean that lists a variable, with what it lists TIED to the program's text (the seventh form; the later family's looks); each row that meets fmt, with fmt's text TOLD by the authors' own Lean function (tested against real Go, not proved from fmt's source: count such statements apart). THE CARD IS WHAT COUNTS. Prove the row's statement (the work); the ties are given (YtdimocjaepnifaaGreatDoorTie.lean); close each card by the builder's one call (the guide's Derived/Test/ToyasCard.lean, 'card_holds'). Laid BY PROGRAM, IN A SANDBOX (cutbox-door.mjs). By AI agents, Wed Nov 11 2026. No macro, syntax, notation, axiom, sorry.
-/
import Derived.Test.YtdimocjaepnifaaGreatDoorRows
import GoSem.ClaimSeven
namespace Go.Proofs.YtdimocjaepnifaaGreatDoor
namespace Rows

/-- THE TIED CARD OF 'fenestralaw33.KeysChecks'. -/
def keysChecksCard : Claim7 := { stood := { row := keysChecksRow, standIns := [], harness := (true, "d906511a866b3133c5afa130c8d884dd3648a7dd336c8b9f7b2332e555c09201"), looks := false }, kinds := [], alts := [], laidByText := true, laidKinds := [.data, .data, .data, .data, .pinned], laidTests := true, laidLooks := .later }
def KeysChecksCardSaid : Prop := Claim7.holds Tryz.pinned (.plain (OpenSpec.ofChange keysChecksSpec)) keysChecksCard

/-- THE TIED CARD OF 'fenestralaw33.KeysDecodes'. -/
def keysDecodesCard : Claim7 := { stood := { row := keysDecodesRow, standIns := [], harness := (true, "d906511a866b3133c5afa130c8d884dd3648a7dd336c8b9f7b2332e555c09201"), looks := false }, kinds := [], alts := [], laidByText := true, laidKinds := [.data, .data, .data, .data, .pinned], laidTests := true, laidLooks := .later }
def KeysDecodesCardSaid : Prop := Claim7.holds Tryz.pinned (.plain (OpenSpec.ofChange keysDecodesSpec)) keysDecodesCard

/-- THE TIED CARD OF 'fenestralaw33.KeysWhole'. -/
def keysWholeCard : Claim7 := { stood := { row := keysWholeRow, standIns := [], harness := (true, "d906511a866b3133c5afa130c8d884dd3648a7dd336c8b9f7b2332e555c09201"), looks := false }, kinds := [], alts := [], laidByText := true, laidKinds := [.data, .data, .data, .data, .pinned], laidTests := true, laidLooks := .later }
def KeysWholeCardSaid : Prop := Claim7.holds Tryz.pinned (.plain (OpenSpec.ofChange keysWholeSpec)) keysWholeCard

/-- THE TIED CARD OF 'fenestralaw33.KeysPieces'. -/
def keysPiecesCard : Claim7 := { stood := { row := keysPiecesRow, standIns := [], harness := (true, "d906511a866b3133c5afa130c8d884dd3648a7dd336c8b9f7b2332e555c09201"), looks := false }, kinds := [], alts := [], laidByText := true, laidKinds := [.data, .data, .data, .data, .pinned], laidTests := true, laidLooks := .later }
def KeysPiecesCardSaid : Prop := Claim7.holds Tryz.pinned (.plain (OpenSpec.ofChange keysPiecesSpec)) keysPiecesCard

/-- THE TIED CARD OF 'fenestralaw33.KeysEncodes'. -/
def keysEncodesCard : Claim7 := { stood := { row := keysEncodesRow, standIns := [], harness := (true, "d906511a866b3133c5afa130c8d884dd3648a7dd336c8b9f7b2332e555c09201"), looks := false }, kinds := [], alts := [], laidByText := true, laidKinds := [.data, .data, .data, .data, .pinned], laidTests := true, laidLooks := .later }
def KeysEncodesCardSaid : Prop := Claim7.holds Tryz.pinned (.plain (OpenSpec.ofChange keysEncodesSpec)) keysEncodesCard

/-- THE TIED CARD OF 'fenestralaw33.KeysBack'. -/
def keysBackCard : Claim7 := { stood := { row := keysBackRow, standIns := [], harness := (true, "d906511a866b3133c5afa130c8d884dd3648a7dd336c8b9f7b2332e555c09201"), looks := false }, kinds := [], alts := [], laidByText := true, laidKinds := [.data, .data, .data, .data, .pinned], laidTests := true, laidLooks := .later }
def KeysBackCardSaid : Prop := Claim7.holds Tryz.pinned (.plain (OpenSpec.ofChange keysBackSpec)) keysBackCard

/-- THE TIED CARD OF 'fenestralaw33.KeysPastes'. -/
def keysPastesCard : Claim7 := { stood := { row := keysPastesRow, standIns := [], harness := (true, "d906511a866b3133c5afa130c8d884dd3648a7dd336c8b9f7b2332e555c09201"), looks := false }, kinds := [], alts := [], laidByText := true, laidKinds := [.data, .data, .data, .data, .pinned], laidTests := true, laidLooks := .later }
def KeysPastesCardSaid : Prop := Claim7.holds Tryz.pinned (.plain (OpenSpec.ofChange keysPastesSpec)) keysPastesCard

/-- THE TIED CARD OF 'fenestralaw33.KeysKnown'. -/
def keysKnownCard : Claim7 := { stood := { row := keysKnownRow, standIns := [], harness := (true, "d906511a866b3133c5afa130c8d884dd3648a7dd336c8b9f7b2332e555c09201"), looks := false }, kinds := [], alts := [], laidByText := true, laidKinds := [.data, .data, .data, .data, .pinned], laidTests := true, laidLooks := .later }
def KeysKnownCardSaid : Prop := Claim7.holds Tryz.pinned (.plain (OpenSpec.ofChange keysKnownSpec)) keysKnownCard

/-- THE SECOND FORM's CARD OF 'fenestralaw33.KeysChecks'. -/
def keysChecksUptoCard : Claim7 := { stood := { row := keysChecksUptoRow, standIns := [], harness := (true, "d906511a866b3133c5afa130c8d884dd3648a7dd336c8b9f7b2332e555c09201"), looks := false }, kinds := [], alts := [], laidByText := true, laidKinds := [.data, .data, .data, .data, .pinned], laidTests := true, laidLooks := .later }
def KeysChecksUptoCardSaid : Prop := Claim7.holds Tryz.pinned (.plain (OpenSpec.upto keysChecksSpec)) keysChecksUptoCard

/-- THE SECOND FORM's CARD OF 'fenestralaw33.KeysDecodes'. -/
def keysDecodesUptoCard : Claim7 := { stood := { row := keysDecodesUptoRow, standIns := [], harness := (true, "d906511a866b3133c5afa130c8d884dd3648a7dd336c8b9f7b2332e555c09201"), looks := false }, kinds := [], alts := [], laidByText := true, laidKinds := [.data, .data, .data, .data, .pinned], laidTests := true, laidLooks := .later }
def KeysDecodesUptoCardSaid : Prop := Claim7.holds Tryz.pinned (.plain (OpenSpec.upto keysDecodesSpec)) keysDecodesUptoCard

/-- THE SECOND FORM's CARD OF 'fenestralaw33.KeysWhole'. -/
def keysWholeUptoCard : Claim7 := { stood := { row := keysWholeUptoRow, standIns := [], harness := (true, "d906511a866b3133c5afa130c8d884dd3648a7dd336c8b9f7b2332e555c09201"), looks := false }, kinds := [], alts := [], laidByText := true, laidKinds := [.data, .data, .data, .data, .pinned], laidTests := true, laidLooks := .later }
def KeysWholeUptoCardSaid : Prop := Claim7.holds Tryz.pinned (.plain (OpenSpec.upto keysWholeSpec)) keysWholeUptoCard

/-- THE SECOND FORM's CARD OF 'fenestralaw33.KeysPieces'. -/
def keysPiecesUptoCard : Claim7 := { stood := { row := keysPiecesUptoRow, standIns := [], harness := (true, "d906511a866b3133c5afa130c8d884dd3648a7dd336c8b9f7b2332e555c09201"), looks := false }, kinds := [], alts := [], laidByText := true, laidKinds := [.data, .data, .data, .data, .pinned], laidTests := true, laidLooks := .later }
def KeysPiecesUptoCardSaid : Prop := Claim7.holds Tryz.pinned (.plain (OpenSpec.upto keysPiecesSpec)) keysPiecesUptoCard

/-- THE SECOND FORM's CARD OF 'fenestralaw33.KeysEncodes'. -/
def keysEncodesUptoCard : Claim7 := { stood := { row := keysEncodesUptoRow, standIns := [], harness := (true, "d906511a866b3133c5afa130c8d884dd3648a7dd336c8b9f7b2332e555c09201"), looks := false }, kinds := [], alts := [], laidByText := true, laidKinds := [.data, .data, .data, .data, .pinned], laidTests := true, laidLooks := .later }
def KeysEncodesUptoCardSaid : Prop := Claim7.holds Tryz.pinned (.plain (OpenSpec.upto keysEncodesSpec)) keysEncodesUptoCard

/-- THE SECOND FORM's CARD OF 'fenestralaw33.KeysBack'. -/
def keysBackUptoCard : Claim7 := { stood := { row := keysBackUptoRow, standIns := [], harness := (true, "d906511a866b3133c5afa130c8d884dd3648a7dd336c8b9f7b2332e555c09201"), looks := false }, kinds := [], alts := [], laidByText := true, laidKinds := [.data, .data, .data, .data, .pinned], laidTests := true, laidLooks := .later }
def KeysBackUptoCardSaid : Prop := Claim7.holds Tryz.pinned (.plain (OpenSpec.upto keysBackSpec)) keysBackUptoCard

/-- THE SECOND FORM's CARD OF 'fenestralaw33.KeysPastes'. -/
def keysPastesUptoCard : Claim7 := { stood := { row := keysPastesUptoRow, standIns := [], harness := (true, "d906511a866b3133c5afa130c8d884dd3648a7dd336c8b9f7b2332e555c09201"), looks := false }, kinds := [], alts := [], laidByText := true, laidKinds := [.data, .data, .data, .data, .pinned], laidTests := true, laidLooks := .later }
def KeysPastesUptoCardSaid : Prop := Claim7.holds Tryz.pinned (.plain (OpenSpec.upto keysPastesSpec)) keysPastesUptoCard

/-- THE SECOND FORM's CARD OF 'fenestralaw33.KeysKnown'. -/
def keysKnownUptoCard : Claim7 := { stood := { row := keysKnownUptoRow, standIns := [], harness := (true, "d906511a866b3133c5afa130c8d884dd3648a7dd336c8b9f7b2332e555c09201"), looks := false }, kinds := [], alts := [], laidByText := true, laidKinds := [.data, .data, .data, .data, .pinned], laidTests := true, laidLooks := .later }
def KeysKnownUptoCardSaid : Prop := Claim7.holds Tryz.pinned (.plain (OpenSpec.upto keysKnownSpec)) keysKnownUptoCard
end Rows
end Go.Proofs.YtdimocjaepnifaaGreatDoor
