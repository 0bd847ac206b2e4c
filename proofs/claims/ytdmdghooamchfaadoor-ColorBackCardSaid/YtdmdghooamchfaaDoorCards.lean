/-
  DERIVED. GIVEN WITH THE SEED: THE CARDS: each row of YtdmdghooamchfaaDoorRows.lean that lists a variable, with what it lists TIED to the program's text (the seventh form; the later family's looks); each row that meets fmt, with fmt's text TOLD by the authors' own Lean function (tested against real Go, not proved from fmt's source: count such statements apart). THE CARD IS WHAT COUNTS. Prove the row's statement (the work); the ties are given (YtdmdghooamchfaaDoorTie.lean); close each card by the builder's one call (the guide's Derived/Test/ToyasCard.lean, 'card_holds'). Laid BY PROGRAM, IN A SANDBOX (cutbox-door.mjs). By AI agents, Wed Nov 11 2026. No macro, syntax, notation, axiom, sorry.
-/
import Derived.Test.YtdmdghooamchfaaDoorRows
import GoSem.ClaimSeven
namespace Go.Proofs.YtdmdghooamchfaaDoor
namespace Rows

/-- THE TIED CARD OF 'fenestralaw03.ColorTells'. -/
def colorTellsCard : Claim7 := { stood := { row := colorTellsRow, standIns := [], harness := (true, "767cf2023fe5f2a5b7d2d4218660290b82c120c240feb370133189b1f99c1046"), looks := true }, kinds := [], alts := [], laidByText := true, laidKinds := [.data, .data, .data, .data, .sentinel, .sentinel, .data, .pinned], laidTests := true, laidLooks := .later }
def ColorTellsCardSaid : Prop := Claim7.holds Tryd.pinned (.plain (OpenSpec.ofChange colorTellsSpec)) colorTellsCard

/-- THE TIED CARD OF 'fenestralaw03.ColorNears'. -/
def colorNearsCard : Claim7 := { stood := { row := colorNearsRow, standIns := [], harness := (true, "767cf2023fe5f2a5b7d2d4218660290b82c120c240feb370133189b1f99c1046"), looks := true }, kinds := [], alts := [], laidByText := true, laidKinds := [.data, .data, .data, .data, .sentinel, .sentinel, .data, .pinned], laidTests := true, laidLooks := .later }
def ColorNearsCardSaid : Prop := Claim7.holds Tryd.pinned (.plain (OpenSpec.ofChange colorNearsSpec)) colorNearsCard

/-- THE TIED CARD OF 'fenestralaw03.ColorParses'. -/
def colorParsesCard : Claim7 := { stood := { row := colorParsesRow, standIns := [], harness := (true, "767cf2023fe5f2a5b7d2d4218660290b82c120c240feb370133189b1f99c1046"), looks := true }, kinds := [], alts := [], laidByText := true, laidKinds := [.data, .data, .data, .data, .sentinel, .sentinel, .data, .pinned], laidTests := true, laidLooks := .later }
def ColorParsesCardSaid : Prop := Claim7.holds Tryd.pinned (.plain (OpenSpec.ofChange colorParsesSpec)) colorParsesCard

/-- THE TIED CARD OF 'fenestralaw03.ColorBest'. -/
def colorBestCard : Claim7 := { stood := { row := colorBestRow, standIns := [], harness := (true, "767cf2023fe5f2a5b7d2d4218660290b82c120c240feb370133189b1f99c1046"), looks := true }, kinds := [], alts := [], laidByText := true, laidKinds := [.data, .data, .data, .data, .sentinel, .sentinel, .data, .pinned], laidTests := true, laidLooks := .later }
def ColorBestCardSaid : Prop := Claim7.holds Tryd.pinned (.plain (OpenSpec.ofChange colorBestSpec)) colorBestCard

/-- THE TIED CARD OF 'fenestralaw03.ColorBack'. -/
def colorBackCard : Claim7 := { stood := { row := colorBackRow, standIns := [], harness := (true, "767cf2023fe5f2a5b7d2d4218660290b82c120c240feb370133189b1f99c1046"), looks := true }, kinds := [], alts := [], laidByText := true, laidKinds := [.data, .data, .data, .data, .sentinel, .sentinel, .data, .pinned], laidTests := true, laidLooks := .later }
def ColorBackCardSaid : Prop := Claim7.holds Tryd.pinned (.plain (OpenSpec.ofChange colorBackSpec)) colorBackCard

/-- THE TIED CARD OF 'fenestralaw03.ColorCube'. -/
def colorCubeCard : Claim7 := { stood := { row := colorCubeRow, standIns := [], harness := (true, "767cf2023fe5f2a5b7d2d4218660290b82c120c240feb370133189b1f99c1046"), looks := true }, kinds := [], alts := [], laidByText := true, laidKinds := [.data, .data, .data, .data, .sentinel, .sentinel, .data, .pinned], laidTests := true, laidLooks := .later }
def ColorCubeCardSaid : Prop := Claim7.holds Tryd.pinned (.plain (OpenSpec.ofChange colorCubeSpec)) colorCubeCard

/-- THE TIED CARD OF 'fenestralaw03.ColorKnown'. -/
def colorKnownCard : Claim7 := { stood := { row := colorKnownRow, standIns := [], harness := (true, "767cf2023fe5f2a5b7d2d4218660290b82c120c240feb370133189b1f99c1046"), looks := true }, kinds := [], alts := [], laidByText := true, laidKinds := [.data, .data, .data, .data, .sentinel, .sentinel, .data, .pinned], laidTests := true, laidLooks := .later }
def ColorKnownCardSaid : Prop := Claim7.holds Tryd.pinned (.plain (OpenSpec.ofChange colorKnownSpec)) colorKnownCard

/-- THE SECOND FORM's CARD OF 'fenestralaw03.ColorTells'. -/
def colorTellsUptoCard : Claim7 := { stood := { row := colorTellsUptoRow, standIns := [], harness := (true, "767cf2023fe5f2a5b7d2d4218660290b82c120c240feb370133189b1f99c1046"), looks := true }, kinds := [], alts := [], laidByText := true, laidKinds := [.data, .data, .data, .data, .sentinel, .sentinel, .data, .pinned], laidTests := true, laidLooks := .later }
def ColorTellsUptoCardSaid : Prop := Claim7.holds Tryd.pinned (.plain (OpenSpec.upto colorTellsSpec)) colorTellsUptoCard

/-- THE SECOND FORM's CARD OF 'fenestralaw03.ColorNears'. -/
def colorNearsUptoCard : Claim7 := { stood := { row := colorNearsUptoRow, standIns := [], harness := (true, "767cf2023fe5f2a5b7d2d4218660290b82c120c240feb370133189b1f99c1046"), looks := true }, kinds := [], alts := [], laidByText := true, laidKinds := [.data, .data, .data, .data, .sentinel, .sentinel, .data, .pinned], laidTests := true, laidLooks := .later }
def ColorNearsUptoCardSaid : Prop := Claim7.holds Tryd.pinned (.plain (OpenSpec.upto colorNearsSpec)) colorNearsUptoCard

/-- THE SECOND FORM's CARD OF 'fenestralaw03.ColorParses'. -/
def colorParsesUptoCard : Claim7 := { stood := { row := colorParsesUptoRow, standIns := [], harness := (true, "767cf2023fe5f2a5b7d2d4218660290b82c120c240feb370133189b1f99c1046"), looks := true }, kinds := [], alts := [], laidByText := true, laidKinds := [.data, .data, .data, .data, .sentinel, .sentinel, .data, .pinned], laidTests := true, laidLooks := .later }
def ColorParsesUptoCardSaid : Prop := Claim7.holds Tryd.pinned (.plain (OpenSpec.upto colorParsesSpec)) colorParsesUptoCard

/-- THE SECOND FORM's CARD OF 'fenestralaw03.ColorBest'. -/
def colorBestUptoCard : Claim7 := { stood := { row := colorBestUptoRow, standIns := [], harness := (true, "767cf2023fe5f2a5b7d2d4218660290b82c120c240feb370133189b1f99c1046"), looks := true }, kinds := [], alts := [], laidByText := true, laidKinds := [.data, .data, .data, .data, .sentinel, .sentinel, .data, .pinned], laidTests := true, laidLooks := .later }
def ColorBestUptoCardSaid : Prop := Claim7.holds Tryd.pinned (.plain (OpenSpec.upto colorBestSpec)) colorBestUptoCard

/-- THE SECOND FORM's CARD OF 'fenestralaw03.ColorBack'. -/
def colorBackUptoCard : Claim7 := { stood := { row := colorBackUptoRow, standIns := [], harness := (true, "767cf2023fe5f2a5b7d2d4218660290b82c120c240feb370133189b1f99c1046"), looks := true }, kinds := [], alts := [], laidByText := true, laidKinds := [.data, .data, .data, .data, .sentinel, .sentinel, .data, .pinned], laidTests := true, laidLooks := .later }
def ColorBackUptoCardSaid : Prop := Claim7.holds Tryd.pinned (.plain (OpenSpec.upto colorBackSpec)) colorBackUptoCard

/-- THE SECOND FORM's CARD OF 'fenestralaw03.ColorCube'. -/
def colorCubeUptoCard : Claim7 := { stood := { row := colorCubeUptoRow, standIns := [], harness := (true, "767cf2023fe5f2a5b7d2d4218660290b82c120c240feb370133189b1f99c1046"), looks := true }, kinds := [], alts := [], laidByText := true, laidKinds := [.data, .data, .data, .data, .sentinel, .sentinel, .data, .pinned], laidTests := true, laidLooks := .later }
def ColorCubeUptoCardSaid : Prop := Claim7.holds Tryd.pinned (.plain (OpenSpec.upto colorCubeSpec)) colorCubeUptoCard

/-- THE SECOND FORM's CARD OF 'fenestralaw03.ColorKnown'. -/
def colorKnownUptoCard : Claim7 := { stood := { row := colorKnownUptoRow, standIns := [], harness := (true, "767cf2023fe5f2a5b7d2d4218660290b82c120c240feb370133189b1f99c1046"), looks := true }, kinds := [], alts := [], laidByText := true, laidKinds := [.data, .data, .data, .data, .sentinel, .sentinel, .data, .pinned], laidTests := true, laidLooks := .later }
def ColorKnownUptoCardSaid : Prop := Claim7.holds Tryd.pinned (.plain (OpenSpec.upto colorKnownSpec)) colorKnownUptoCard
end Rows
end Go.Proofs.YtdmdghooamchfaaDoor
