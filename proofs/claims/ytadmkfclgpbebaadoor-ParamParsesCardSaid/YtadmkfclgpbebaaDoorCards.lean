/-
  DERIVED. GIVEN WITH THE SEED: THE CARDS: each row of YtadmkfclgpbebaaDoorRows.lean that lists a variable, with what it lists TIED to the program's text (the seventh form; the later family's looks); each row that meets fmt, with fmt's text TOLD by the authors' own Lean function (tested against real Go, not proved from fmt's source: count such statements apart). THE CARD IS WHAT COUNTS. Prove the row's statement (the work); the ties are given (YtadmkfclgpbebaaDoorTie.lean); close each card by the builder's one call (the guide's Derived/Test/ToyasCard.lean, 'card_holds'). Laid BY PROGRAM, IN A SANDBOX (cutbox-door.mjs). By AI agents, Wed Nov 11 2026. No macro, syntax, notation, axiom, sorry.
-/
import Derived.Test.YtadmkfclgpbebaaDoorRows
import GoSem.ClaimSeven
namespace Go.Proofs.YtadmkfclgpbebaaDoor
namespace Rows

/-- THE TIED CARD OF 'fenestralaw05.ParamSteps'. -/
def paramStepsCard : Claim7 := { stood := { row := paramStepsRow, standIns := [], harness := (true, "b1d1226bade52d7c189ce906289df4e20879ce927096cd52a356dc794648fa50"), looks := false }, kinds := [], alts := [], laidByText := true, laidKinds := [.data, .data, .data], laidTests := true, laidLooks := .later }
def ParamStepsCardSaid : Prop := Claim7.holds Tryd.pinned (.plain (OpenSpec.ofChange paramStepsSpec)) paramStepsCard

/-- THE TIED CARD OF 'fenestralaw05.ParamParses'. -/
def paramParsesCard : Claim7 := { stood := { row := paramParsesRow, standIns := [], harness := (true, "b1d1226bade52d7c189ce906289df4e20879ce927096cd52a356dc794648fa50"), looks := false }, kinds := [], alts := [], laidByText := true, laidKinds := [.data, .data, .data], laidTests := true, laidLooks := .later }
def ParamParsesCardSaid : Prop := Claim7.holds Tryd.pinned (.plain (OpenSpec.ofChange paramParsesSpec)) paramParsesCard

/-- THE TIED CARD OF 'fenestralaw05.ParamNumbers'. -/
def paramNumbersCard : Claim7 := { stood := { row := paramNumbersRow, standIns := [], harness := (true, "b1d1226bade52d7c189ce906289df4e20879ce927096cd52a356dc794648fa50"), looks := false }, kinds := [], alts := [], laidByText := true, laidKinds := [.data, .data, .data], laidTests := true, laidLooks := .later }
def ParamNumbersCardSaid : Prop := Claim7.holds Tryd.pinned (.plain (OpenSpec.ofChange paramNumbersSpec)) paramNumbersCard

/-- THE TIED CARD OF 'fenestralaw05.ParamKnown'. -/
def paramKnownCard : Claim7 := { stood := { row := paramKnownRow, standIns := [], harness := (true, "b1d1226bade52d7c189ce906289df4e20879ce927096cd52a356dc794648fa50"), looks := false }, kinds := [], alts := [], laidByText := true, laidKinds := [.data, .data, .data], laidTests := true, laidLooks := .later }
def ParamKnownCardSaid : Prop := Claim7.holds Tryd.pinned (.plain (OpenSpec.ofChange paramKnownSpec)) paramKnownCard

/-- THE TIED CARD OF 'fenestralaw05.ParamPrints'. -/
def paramPrintsCard : Claim7 := { stood := { row := paramPrintsRow, standIns := [], harness := (true, "b1d1226bade52d7c189ce906289df4e20879ce927096cd52a356dc794648fa50"), looks := false }, kinds := [], alts := [], laidByText := true, laidKinds := [.data, .data, .data], laidTests := true, laidLooks := .later }
def ParamPrintsCardSaid : Prop := Claim7.holds Tryd.pinned (.plain (OpenSpec.ofChange paramPrintsSpec)) paramPrintsCard

/-- THE TIED CARD OF 'fenestralaw05.ParamBack'. -/
def paramBackCard : Claim7 := { stood := { row := paramBackRow, standIns := [], harness := (true, "b1d1226bade52d7c189ce906289df4e20879ce927096cd52a356dc794648fa50"), looks := false }, kinds := [], alts := [], laidByText := true, laidKinds := [.data, .data, .data], laidTests := true, laidLooks := .later }
def ParamBackCardSaid : Prop := Claim7.holds Tryd.pinned (.plain (OpenSpec.ofChange paramBackSpec)) paramBackCard

/-- THE TIED CARD OF 'fenestralaw05.ParamCanon'. -/
def paramCanonCard : Claim7 := { stood := { row := paramCanonRow, standIns := [], harness := (true, "b1d1226bade52d7c189ce906289df4e20879ce927096cd52a356dc794648fa50"), looks := false }, kinds := [], alts := [], laidByText := true, laidKinds := [.data, .data, .data], laidTests := true, laidLooks := .later }
def ParamCanonCardSaid : Prop := Claim7.holds Tryd.pinned (.plain (OpenSpec.ofChange paramCanonSpec)) paramCanonCard

/-- THE SECOND FORM's CARD OF 'fenestralaw05.ParamSteps'. -/
def paramStepsUptoCard : Claim7 := { stood := { row := paramStepsUptoRow, standIns := [], harness := (true, "b1d1226bade52d7c189ce906289df4e20879ce927096cd52a356dc794648fa50"), looks := false }, kinds := [], alts := [], laidByText := true, laidKinds := [.data, .data, .data], laidTests := true, laidLooks := .later }
def ParamStepsUptoCardSaid : Prop := Claim7.holds Tryd.pinned (.plain (OpenSpec.upto paramStepsSpec)) paramStepsUptoCard

/-- THE SECOND FORM's CARD OF 'fenestralaw05.ParamParses'. -/
def paramParsesUptoCard : Claim7 := { stood := { row := paramParsesUptoRow, standIns := [], harness := (true, "b1d1226bade52d7c189ce906289df4e20879ce927096cd52a356dc794648fa50"), looks := false }, kinds := [], alts := [], laidByText := true, laidKinds := [.data, .data, .data], laidTests := true, laidLooks := .later }
def ParamParsesUptoCardSaid : Prop := Claim7.holds Tryd.pinned (.plain (OpenSpec.upto paramParsesSpec)) paramParsesUptoCard

/-- THE SECOND FORM's CARD OF 'fenestralaw05.ParamNumbers'. -/
def paramNumbersUptoCard : Claim7 := { stood := { row := paramNumbersUptoRow, standIns := [], harness := (true, "b1d1226bade52d7c189ce906289df4e20879ce927096cd52a356dc794648fa50"), looks := false }, kinds := [], alts := [], laidByText := true, laidKinds := [.data, .data, .data], laidTests := true, laidLooks := .later }
def ParamNumbersUptoCardSaid : Prop := Claim7.holds Tryd.pinned (.plain (OpenSpec.upto paramNumbersSpec)) paramNumbersUptoCard

/-- THE SECOND FORM's CARD OF 'fenestralaw05.ParamKnown'. -/
def paramKnownUptoCard : Claim7 := { stood := { row := paramKnownUptoRow, standIns := [], harness := (true, "b1d1226bade52d7c189ce906289df4e20879ce927096cd52a356dc794648fa50"), looks := false }, kinds := [], alts := [], laidByText := true, laidKinds := [.data, .data, .data], laidTests := true, laidLooks := .later }
def ParamKnownUptoCardSaid : Prop := Claim7.holds Tryd.pinned (.plain (OpenSpec.upto paramKnownSpec)) paramKnownUptoCard

/-- THE SECOND FORM's CARD OF 'fenestralaw05.ParamPrints'. -/
def paramPrintsUptoCard : Claim7 := { stood := { row := paramPrintsUptoRow, standIns := [], harness := (true, "b1d1226bade52d7c189ce906289df4e20879ce927096cd52a356dc794648fa50"), looks := false }, kinds := [], alts := [], laidByText := true, laidKinds := [.data, .data, .data], laidTests := true, laidLooks := .later }
def ParamPrintsUptoCardSaid : Prop := Claim7.holds Tryd.pinned (.plain (OpenSpec.upto paramPrintsSpec)) paramPrintsUptoCard

/-- THE SECOND FORM's CARD OF 'fenestralaw05.ParamBack'. -/
def paramBackUptoCard : Claim7 := { stood := { row := paramBackUptoRow, standIns := [], harness := (true, "b1d1226bade52d7c189ce906289df4e20879ce927096cd52a356dc794648fa50"), looks := false }, kinds := [], alts := [], laidByText := true, laidKinds := [.data, .data, .data], laidTests := true, laidLooks := .later }
def ParamBackUptoCardSaid : Prop := Claim7.holds Tryd.pinned (.plain (OpenSpec.upto paramBackSpec)) paramBackUptoCard

/-- THE SECOND FORM's CARD OF 'fenestralaw05.ParamCanon'. -/
def paramCanonUptoCard : Claim7 := { stood := { row := paramCanonUptoRow, standIns := [], harness := (true, "b1d1226bade52d7c189ce906289df4e20879ce927096cd52a356dc794648fa50"), looks := false }, kinds := [], alts := [], laidByText := true, laidKinds := [.data, .data, .data], laidTests := true, laidLooks := .later }
def ParamCanonUptoCardSaid : Prop := Claim7.holds Tryd.pinned (.plain (OpenSpec.upto paramCanonSpec)) paramCanonUptoCard
end Rows
end Go.Proofs.YtadmkfclgpbebaaDoor
