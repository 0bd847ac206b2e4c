/-
  DERIVED. GIVEN WITH THE SEED: THE CARDS: each row of YtdkdbjgkedahfaaGreatDoorRows.lean that lists a variable, with what it lists TIED to the program's text (the seventh form; the later family's looks); each row that meets fmt, with fmt's text TOLD by the authors' own Lean function (tested against real Go, not proved from fmt's source: count such statements apart). THE CARD IS WHAT COUNTS. Prove the row's statement (the work); the ties are given (YtdkdbjgkedahfaaGreatDoorTie.lean); close each card by the builder's one call (the guide's Derived/Test/ToyasCard.lean, 'card_holds'). Laid BY PROGRAM, IN A SANDBOX (cutbox-door.mjs). By AI agents, Wed Nov 11 2026. No macro, syntax, notation, axiom, sorry.
-/
import Derived.Test.YtdkdbjgkedahfaaGreatDoorRows
import GoSem.ClaimSeven
namespace Go.Proofs.YtdkdbjgkedahfaaGreatDoor
namespace Rows

/-- THE TIED CARD OF 'fenestralaw32.PickRows'. -/
def pickRowsCard : Claim7 := { stood := { row := pickRowsRow, standIns := [], harness := (true, "eb104fb4e418f2b86b5e509fb45c43a853abc27e0c641ecdb19ffc9f2876bae1"), looks := true }, kinds := [], alts := [], laidByText := true, laidKinds := [.data, .data, .data, .data, .data, .data, .data, .widerDeep, .widerDeep], laidTests := true, laidLooks := .later }
def PickRowsCardSaid : Prop := Claim7.holds Tryz.pinned (.plain (OpenSpec.ofChange pickRowsSpec)) pickRowsCard

/-- THE TIED CARD OF 'fenestralaw32.PickKnown'. -/
def pickKnownCard : Claim7 := { stood := { row := pickKnownRow, standIns := [], harness := (true, "eb104fb4e418f2b86b5e509fb45c43a853abc27e0c641ecdb19ffc9f2876bae1"), looks := true }, kinds := [], alts := [], laidByText := true, laidKinds := [.data, .data, .data, .data, .widerDeep, .widerDeep], laidTests := true, laidLooks := .later }
def PickKnownCardSaid : Prop := Claim7.holds Tryz.pinned (.plain (OpenSpec.ofChange pickKnownSpec)) pickKnownCard

/-- THE SECOND FORM's CARD OF 'fenestralaw32.PickRows'. -/
def pickRowsUptoCard : Claim7 := { stood := { row := pickRowsUptoRow, standIns := [], harness := (true, "eb104fb4e418f2b86b5e509fb45c43a853abc27e0c641ecdb19ffc9f2876bae1"), looks := true }, kinds := [], alts := [], laidByText := true, laidKinds := [.data, .data, .data, .data, .data, .data, .data, .widerDeep, .widerDeep], laidTests := true, laidLooks := .later }
def PickRowsUptoCardSaid : Prop := Claim7.holds Tryz.pinned (.plain (OpenSpec.upto pickRowsSpec)) pickRowsUptoCard

/-- THE SECOND FORM's CARD OF 'fenestralaw32.PickKnown'. -/
def pickKnownUptoCard : Claim7 := { stood := { row := pickKnownUptoRow, standIns := [], harness := (true, "eb104fb4e418f2b86b5e509fb45c43a853abc27e0c641ecdb19ffc9f2876bae1"), looks := true }, kinds := [], alts := [], laidByText := true, laidKinds := [.data, .data, .data, .data, .widerDeep, .widerDeep], laidTests := true, laidLooks := .later }
def PickKnownUptoCardSaid : Prop := Claim7.holds Tryz.pinned (.plain (OpenSpec.upto pickKnownSpec)) pickKnownUptoCard
end Rows
end Go.Proofs.YtdkdbjgkedahfaaGreatDoor
