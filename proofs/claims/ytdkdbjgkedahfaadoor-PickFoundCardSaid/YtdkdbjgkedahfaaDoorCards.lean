/-
  DERIVED. GIVEN WITH THE SEED: THE CARDS: each row of YtdkdbjgkedahfaaDoorRows.lean that lists a variable, with what it lists TIED to the program's text (the seventh form; the later family's looks); each row that meets fmt, with fmt's text TOLD by the authors' own Lean function (tested against real Go, not proved from fmt's source: count such statements apart). THE CARD IS WHAT COUNTS. Prove the row's statement (the work); the ties are given (YtdkdbjgkedahfaaDoorTie.lean); close each card by the builder's one call (the guide's Derived/Test/ToyasCard.lean, 'card_holds'). Laid BY PROGRAM, IN A SANDBOX (cutbox-door.mjs). By AI agents, Wed Nov 11 2026. No macro, syntax, notation, axiom, sorry.
-/
import Derived.Test.YtdkdbjgkedahfaaDoorRows
import GoSem.ClaimSeven
namespace Go.Proofs.YtdkdbjgkedahfaaDoor
namespace Rows

/-- THE TIED CARD OF 'fenestralaw32.PickTexts'. -/
def pickTextsCard : Claim7 := { stood := { row := pickTextsRow, standIns := [], harness := (true, "97515371105bb4362db8b025a9ae5336dc6b45c585b41f82849f2f4eba60e6f7"), looks := false }, kinds := [], alts := [], laidByText := true, laidKinds := [.widerDeep, .widerDeep], laidTests := true, laidLooks := .later }
def PickTextsCardSaid : Prop := Claim7.holds Tryd.pinned (.plain (OpenSpec.ofChange pickTextsSpec)) pickTextsCard

/-- THE TIED CARD OF 'fenestralaw32.PickLines'. -/
def pickLinesCard : Claim7 := { stood := { row := pickLinesRow, standIns := [], harness := (true, "97515371105bb4362db8b025a9ae5336dc6b45c585b41f82849f2f4eba60e6f7"), looks := false }, kinds := [], alts := [], laidByText := true, laidKinds := [.widerDeep, .widerDeep], laidTests := true, laidLooks := .later }
def PickLinesCardSaid : Prop := Claim7.holds Tryd.pinned (.plain (OpenSpec.ofChange pickLinesSpec)) pickLinesCard

/-- THE TIED CARD OF 'fenestralaw32.PickFinds'. -/
def pickFindsCard : Claim7 := { stood := { row := pickFindsRow, standIns := [], harness := (true, "97515371105bb4362db8b025a9ae5336dc6b45c585b41f82849f2f4eba60e6f7"), looks := false }, kinds := [], alts := [], laidByText := true, laidKinds := [.widerDeep, .widerDeep], laidTests := true, laidLooks := .later }
def PickFindsCardSaid : Prop := Claim7.holds Tryd.pinned (.plain (OpenSpec.ofChange pickFindsSpec)) pickFindsCard

/-- THE TIED CARD OF 'fenestralaw32.PickWords'. -/
def pickWordsCard : Claim7 := { stood := { row := pickWordsRow, standIns := [], harness := (true, "97515371105bb4362db8b025a9ae5336dc6b45c585b41f82849f2f4eba60e6f7"), looks := false }, kinds := [], alts := [], laidByText := true, laidKinds := [.widerDeep, .widerDeep], laidTests := true, laidLooks := .later }
def PickWordsCardSaid : Prop := Claim7.holds Tryd.pinned (.plain (OpenSpec.ofChange pickWordsSpec)) pickWordsCard

/-- THE TIED CARD OF 'fenestralaw32.PickFound'. -/
def pickFoundCard : Claim7 := { stood := { row := pickFoundRow, standIns := [], harness := (true, "97515371105bb4362db8b025a9ae5336dc6b45c585b41f82849f2f4eba60e6f7"), looks := false }, kinds := [], alts := [], laidByText := true, laidKinds := [.widerDeep, .widerDeep], laidTests := true, laidLooks := .later }
def PickFoundCardSaid : Prop := Claim7.holds Tryd.pinned (.plain (OpenSpec.ofChange pickFoundSpec)) pickFoundCard

/-- THE TIED CARD OF 'fenestralaw32.PickSplits'. -/
def pickSplitsCard : Claim7 := { stood := { row := pickSplitsRow, standIns := [], harness := (true, "97515371105bb4362db8b025a9ae5336dc6b45c585b41f82849f2f4eba60e6f7"), looks := false }, kinds := [], alts := [], laidByText := true, laidKinds := [.widerDeep, .widerDeep], laidTests := true, laidLooks := .later }
def PickSplitsCardSaid : Prop := Claim7.holds Tryd.pinned (.plain (OpenSpec.ofChange pickSplitsSpec)) pickSplitsCard

/-- THE SECOND FORM's CARD OF 'fenestralaw32.PickTexts'. -/
def pickTextsUptoCard : Claim7 := { stood := { row := pickTextsUptoRow, standIns := [], harness := (true, "97515371105bb4362db8b025a9ae5336dc6b45c585b41f82849f2f4eba60e6f7"), looks := false }, kinds := [], alts := [], laidByText := true, laidKinds := [.widerDeep, .widerDeep], laidTests := true, laidLooks := .later }
def PickTextsUptoCardSaid : Prop := Claim7.holds Tryd.pinned (.plain (OpenSpec.upto pickTextsSpec)) pickTextsUptoCard

/-- THE SECOND FORM's CARD OF 'fenestralaw32.PickLines'. -/
def pickLinesUptoCard : Claim7 := { stood := { row := pickLinesUptoRow, standIns := [], harness := (true, "97515371105bb4362db8b025a9ae5336dc6b45c585b41f82849f2f4eba60e6f7"), looks := false }, kinds := [], alts := [], laidByText := true, laidKinds := [.widerDeep, .widerDeep], laidTests := true, laidLooks := .later }
def PickLinesUptoCardSaid : Prop := Claim7.holds Tryd.pinned (.plain (OpenSpec.upto pickLinesSpec)) pickLinesUptoCard

/-- THE SECOND FORM's CARD OF 'fenestralaw32.PickFinds'. -/
def pickFindsUptoCard : Claim7 := { stood := { row := pickFindsUptoRow, standIns := [], harness := (true, "97515371105bb4362db8b025a9ae5336dc6b45c585b41f82849f2f4eba60e6f7"), looks := false }, kinds := [], alts := [], laidByText := true, laidKinds := [.widerDeep, .widerDeep], laidTests := true, laidLooks := .later }
def PickFindsUptoCardSaid : Prop := Claim7.holds Tryd.pinned (.plain (OpenSpec.upto pickFindsSpec)) pickFindsUptoCard

/-- THE SECOND FORM's CARD OF 'fenestralaw32.PickWords'. -/
def pickWordsUptoCard : Claim7 := { stood := { row := pickWordsUptoRow, standIns := [], harness := (true, "97515371105bb4362db8b025a9ae5336dc6b45c585b41f82849f2f4eba60e6f7"), looks := false }, kinds := [], alts := [], laidByText := true, laidKinds := [.widerDeep, .widerDeep], laidTests := true, laidLooks := .later }
def PickWordsUptoCardSaid : Prop := Claim7.holds Tryd.pinned (.plain (OpenSpec.upto pickWordsSpec)) pickWordsUptoCard

/-- THE SECOND FORM's CARD OF 'fenestralaw32.PickFound'. -/
def pickFoundUptoCard : Claim7 := { stood := { row := pickFoundUptoRow, standIns := [], harness := (true, "97515371105bb4362db8b025a9ae5336dc6b45c585b41f82849f2f4eba60e6f7"), looks := false }, kinds := [], alts := [], laidByText := true, laidKinds := [.widerDeep, .widerDeep], laidTests := true, laidLooks := .later }
def PickFoundUptoCardSaid : Prop := Claim7.holds Tryd.pinned (.plain (OpenSpec.upto pickFoundSpec)) pickFoundUptoCard

/-- THE SECOND FORM's CARD OF 'fenestralaw32.PickSplits'. -/
def pickSplitsUptoCard : Claim7 := { stood := { row := pickSplitsUptoRow, standIns := [], harness := (true, "97515371105bb4362db8b025a9ae5336dc6b45c585b41f82849f2f4eba60e6f7"), looks := false }, kinds := [], alts := [], laidByText := true, laidKinds := [.widerDeep, .widerDeep], laidTests := true, laidLooks := .later }
def PickSplitsUptoCardSaid : Prop := Claim7.holds Tryd.pinned (.plain (OpenSpec.upto pickSplitsSpec)) pickSplitsUptoCard
end Rows
end Go.Proofs.YtdkdbjgkedahfaaDoor
