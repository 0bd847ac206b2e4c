/-
  DERIVED. GIVEN WITH THE SEED: THE CARDS: each row of YtbbicpheoakeeaaGreatDoorRows.lean that lists a variable, with what it lists TIED to the program's text (the seventh form; the later family's looks); each row that meets fmt, with fmt's text TOLD by the authors' own Lean function (tested against real Go, not proved from fmt's source: count such statements apart). THE CARD IS WHAT COUNTS. Prove the row's statement (the work); the ties are given (YtbbicpheoakeeaaGreatDoorTie.lean); close each card by the builder's one call (the guide's Derived/Test/ToyasCard.lean, 'card_holds'). Laid BY PROGRAM, IN A SANDBOX (cutbox-door.mjs). By AI agents, Wed Nov 11 2026. No macro, syntax, notation, axiom, sorry.
-/
import Derived.Test.YtbbicpheoakeeaaGreatDoorRows
import GoSem.ClaimSeven
namespace Go.Proofs.YtbbicpheoakeeaaGreatDoor
namespace Rows

/-- THE TIED CARD OF 'fenestralaw39.KeymapSteps'. -/
def keymapStepsCard : Claim7 := { stood := { row := keymapStepsRow, standIns := [], harness := (true, "db4f8d50c03d81c3e2175ee8f0465fddf7d73fe6e4107b2ad99eb6ee15704f56"), looks := true }, kinds := [], alts := [], laidByText := true, laidKinds := [.data, .data, .data, .data, .sentinel, .sentinel, .listed, .data, .data, .pinned, .pinned], laidTests := true, laidLooks := .later }
def KeymapStepsCardSaid : Prop := Claim7.holds Tryz.pinned (.plain (OpenSpec.ofChange keymapStepsSpec)) keymapStepsCard

/-- THE TIED CARD OF 'fenestralaw39.KeymapNames'. -/
def keymapNamesCard : Claim7 := { stood := { row := keymapNamesRow, standIns := [], harness := (true, "db4f8d50c03d81c3e2175ee8f0465fddf7d73fe6e4107b2ad99eb6ee15704f56"), looks := true }, kinds := [], alts := [], laidByText := true, laidKinds := [.data, .data, .data, .data, .sentinel, .sentinel, .listed, .data, .data, .pinned, .pinned], laidTests := true, laidLooks := .later }
def KeymapNamesCardSaid : Prop := Claim7.holds Tryz.pinned (.plain (OpenSpec.ofChange keymapNamesSpec)) keymapNamesCard

/-- THE TIED CARD OF 'fenestralaw39.KeymapParses'. -/
def keymapParsesCard : Claim7 := { stood := { row := keymapParsesRow, standIns := [], harness := (true, "db4f8d50c03d81c3e2175ee8f0465fddf7d73fe6e4107b2ad99eb6ee15704f56"), looks := true }, kinds := [], alts := [], laidByText := true, laidKinds := [.data, .data, .data, .data, .sentinel, .sentinel, .listed, .data, .data, .pinned, .pinned], laidTests := true, laidLooks := .later }
def KeymapParsesCardSaid : Prop := Claim7.holds Tryz.pinned (.plain (OpenSpec.ofChange keymapParsesSpec)) keymapParsesCard

/-- THE TIED CARD OF 'fenestralaw39.KeymapRuns'. -/
def keymapRunsCard : Claim7 := { stood := { row := keymapRunsRow, standIns := [], harness := (true, "db4f8d50c03d81c3e2175ee8f0465fddf7d73fe6e4107b2ad99eb6ee15704f56"), looks := true }, kinds := [], alts := [], laidByText := true, laidKinds := [.data, .data, .data, .data, .sentinel, .sentinel, .listed, .data, .data, .pinned, .pinned], laidTests := true, laidLooks := .later }
def KeymapRunsCardSaid : Prop := Claim7.holds Tryz.pinned (.plain (OpenSpec.ofChange keymapRunsSpec)) keymapRunsCard

/-- THE TIED CARD OF 'fenestralaw39.KeymapNamed'. -/
def keymapNamedCard : Claim7 := { stood := { row := keymapNamedRow, standIns := [], harness := (true, "db4f8d50c03d81c3e2175ee8f0465fddf7d73fe6e4107b2ad99eb6ee15704f56"), looks := true }, kinds := [], alts := [], laidByText := true, laidKinds := [.data, .data, .data, .data, .sentinel, .sentinel, .listed, .data, .data, .pinned, .pinned], laidTests := true, laidLooks := .later }
def KeymapNamedCardSaid : Prop := Claim7.holds Tryz.pinned (.plain (OpenSpec.ofChange keymapNamedSpec)) keymapNamedCard

/-- THE TIED CARD OF 'fenestralaw39.KeymapBack'. -/
def keymapBackCard : Claim7 := { stood := { row := keymapBackRow, standIns := [], harness := (true, "db4f8d50c03d81c3e2175ee8f0465fddf7d73fe6e4107b2ad99eb6ee15704f56"), looks := true }, kinds := [], alts := [], laidByText := true, laidKinds := [.data, .data, .data, .data, .sentinel, .sentinel, .listed, .data, .data, .pinned, .pinned], laidTests := true, laidLooks := .later }
def KeymapBackCardSaid : Prop := Claim7.holds Tryz.pinned (.plain (OpenSpec.ofChange keymapBackSpec)) keymapBackCard

/-- THE TIED CARD OF 'fenestralaw39.KeymapKnown'. -/
def keymapKnownCard : Claim7 := { stood := { row := keymapKnownRow, standIns := [], harness := (true, "db4f8d50c03d81c3e2175ee8f0465fddf7d73fe6e4107b2ad99eb6ee15704f56"), looks := true }, kinds := [], alts := [], laidByText := true, laidKinds := [.data, .data, .data, .data, .sentinel, .sentinel, .listed, .data, .data, .pinned, .pinned], laidTests := true, laidLooks := .later }
def KeymapKnownCardSaid : Prop := Claim7.holds Tryz.pinned (.plain (OpenSpec.ofChange keymapKnownSpec)) keymapKnownCard

/-- THE TIED CARD OF 'fenestralaw39.KeymapChecks'. -/
def keymapChecksCard : Claim7 := { stood := { row := keymapChecksRow, standIns := [], harness := (true, "db4f8d50c03d81c3e2175ee8f0465fddf7d73fe6e4107b2ad99eb6ee15704f56"), looks := true }, kinds := [], alts := [], laidByText := true, laidKinds := [.data, .data, .data, .data, .sentinel, .sentinel, .listed, .data, .data, .pinned, .pinned], laidTests := true, laidLooks := .later }
def KeymapChecksCardSaid : Prop := Claim7.holds Tryz.pinned (.plain (OpenSpec.ofChange keymapChecksSpec)) keymapChecksCard

/-- THE SECOND FORM's CARD OF 'fenestralaw39.KeymapSteps'. -/
def keymapStepsUptoCard : Claim7 := { stood := { row := keymapStepsUptoRow, standIns := [], harness := (true, "db4f8d50c03d81c3e2175ee8f0465fddf7d73fe6e4107b2ad99eb6ee15704f56"), looks := true }, kinds := [], alts := [], laidByText := true, laidKinds := [.data, .data, .data, .data, .sentinel, .sentinel, .listed, .data, .data, .pinned, .pinned], laidTests := true, laidLooks := .later }
def KeymapStepsUptoCardSaid : Prop := Claim7.holds Tryz.pinned (.plain (OpenSpec.upto keymapStepsSpec)) keymapStepsUptoCard

/-- THE SECOND FORM's CARD OF 'fenestralaw39.KeymapNames'. -/
def keymapNamesUptoCard : Claim7 := { stood := { row := keymapNamesUptoRow, standIns := [], harness := (true, "db4f8d50c03d81c3e2175ee8f0465fddf7d73fe6e4107b2ad99eb6ee15704f56"), looks := true }, kinds := [], alts := [], laidByText := true, laidKinds := [.data, .data, .data, .data, .sentinel, .sentinel, .listed, .data, .data, .pinned, .pinned], laidTests := true, laidLooks := .later }
def KeymapNamesUptoCardSaid : Prop := Claim7.holds Tryz.pinned (.plain (OpenSpec.upto keymapNamesSpec)) keymapNamesUptoCard

/-- THE SECOND FORM's CARD OF 'fenestralaw39.KeymapParses'. -/
def keymapParsesUptoCard : Claim7 := { stood := { row := keymapParsesUptoRow, standIns := [], harness := (true, "db4f8d50c03d81c3e2175ee8f0465fddf7d73fe6e4107b2ad99eb6ee15704f56"), looks := true }, kinds := [], alts := [], laidByText := true, laidKinds := [.data, .data, .data, .data, .sentinel, .sentinel, .listed, .data, .data, .pinned, .pinned], laidTests := true, laidLooks := .later }
def KeymapParsesUptoCardSaid : Prop := Claim7.holds Tryz.pinned (.plain (OpenSpec.upto keymapParsesSpec)) keymapParsesUptoCard

/-- THE SECOND FORM's CARD OF 'fenestralaw39.KeymapRuns'. -/
def keymapRunsUptoCard : Claim7 := { stood := { row := keymapRunsUptoRow, standIns := [], harness := (true, "db4f8d50c03d81c3e2175ee8f0465fddf7d73fe6e4107b2ad99eb6ee15704f56"), looks := true }, kinds := [], alts := [], laidByText := true, laidKinds := [.data, .data, .data, .data, .sentinel, .sentinel, .listed, .data, .data, .pinned, .pinned], laidTests := true, laidLooks := .later }
def KeymapRunsUptoCardSaid : Prop := Claim7.holds Tryz.pinned (.plain (OpenSpec.upto keymapRunsSpec)) keymapRunsUptoCard

/-- THE SECOND FORM's CARD OF 'fenestralaw39.KeymapNamed'. -/
def keymapNamedUptoCard : Claim7 := { stood := { row := keymapNamedUptoRow, standIns := [], harness := (true, "db4f8d50c03d81c3e2175ee8f0465fddf7d73fe6e4107b2ad99eb6ee15704f56"), looks := true }, kinds := [], alts := [], laidByText := true, laidKinds := [.data, .data, .data, .data, .sentinel, .sentinel, .listed, .data, .data, .pinned, .pinned], laidTests := true, laidLooks := .later }
def KeymapNamedUptoCardSaid : Prop := Claim7.holds Tryz.pinned (.plain (OpenSpec.upto keymapNamedSpec)) keymapNamedUptoCard

/-- THE SECOND FORM's CARD OF 'fenestralaw39.KeymapBack'. -/
def keymapBackUptoCard : Claim7 := { stood := { row := keymapBackUptoRow, standIns := [], harness := (true, "db4f8d50c03d81c3e2175ee8f0465fddf7d73fe6e4107b2ad99eb6ee15704f56"), looks := true }, kinds := [], alts := [], laidByText := true, laidKinds := [.data, .data, .data, .data, .sentinel, .sentinel, .listed, .data, .data, .pinned, .pinned], laidTests := true, laidLooks := .later }
def KeymapBackUptoCardSaid : Prop := Claim7.holds Tryz.pinned (.plain (OpenSpec.upto keymapBackSpec)) keymapBackUptoCard

/-- THE SECOND FORM's CARD OF 'fenestralaw39.KeymapKnown'. -/
def keymapKnownUptoCard : Claim7 := { stood := { row := keymapKnownUptoRow, standIns := [], harness := (true, "db4f8d50c03d81c3e2175ee8f0465fddf7d73fe6e4107b2ad99eb6ee15704f56"), looks := true }, kinds := [], alts := [], laidByText := true, laidKinds := [.data, .data, .data, .data, .sentinel, .sentinel, .listed, .data, .data, .pinned, .pinned], laidTests := true, laidLooks := .later }
def KeymapKnownUptoCardSaid : Prop := Claim7.holds Tryz.pinned (.plain (OpenSpec.upto keymapKnownSpec)) keymapKnownUptoCard

/-- THE SECOND FORM's CARD OF 'fenestralaw39.KeymapChecks'. -/
def keymapChecksUptoCard : Claim7 := { stood := { row := keymapChecksUptoRow, standIns := [], harness := (true, "db4f8d50c03d81c3e2175ee8f0465fddf7d73fe6e4107b2ad99eb6ee15704f56"), looks := true }, kinds := [], alts := [], laidByText := true, laidKinds := [.data, .data, .data, .data, .sentinel, .sentinel, .listed, .data, .data, .pinned, .pinned], laidTests := true, laidLooks := .later }
def KeymapChecksUptoCardSaid : Prop := Claim7.holds Tryz.pinned (.plain (OpenSpec.upto keymapChecksSpec)) keymapChecksUptoCard
end Rows
end Go.Proofs.YtbbicpheoakeeaaGreatDoor
