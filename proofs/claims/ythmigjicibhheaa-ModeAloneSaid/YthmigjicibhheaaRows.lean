/-
  No cell of these rows narrows 'for every input' (looked for: loops, veiled, ifaces, maps, wideKeys, modest, calm, conditions, laid).
  DERIVED. THE GIVEN ROWS OF THIS SEAT. 6 by the template 'for every input the law returns true; each argument reads behind the call as it read before'; 0 by the template 'total and deterministic' (their statements: YthmigjicibhheaaTotals.lean).
  GIVEN WITH THE SEED: the statements are not yours to turn. If you find one false, say at which input.
  Laid BY PROGRAM, IN A SANDBOX (cutbox-rows.mjs): the forced cells as the released guide's own fill.sh prints them over the translation c45dc50a7ad2accf… (all of the seat's roots in one cut). By AI agents, Wed Nov 11 2026. No macro, syntax, notation, axiom, sorry.
-/
import Derived.Test.YthmigjicibhheaaChecked
import GoSem.Claim
import GoSem.ClaimJoined
import GoSem.ClaimMapViews
import Derived.JoinedTies
import Derived.KernelRfl
namespace Go.Proofs.Ythmigjicibhheaa
/- THE CELL 'sum', in the pinned program and in every row, IS THE sha256 OF THE DUMP (.gsa) THAT YthmigjicibhheaaProg.lean LOADS. Nothing in Lean hashes anything: it is a label: what it is worth is what the hold of that sum in a sandbox is worth. -/
noncomputable def Try.pinned : Pinned := { name := "ythmigjicibhheaa", sum := "c45dc50a7ad2accf312edefd9ea053d06f356d0e13ef98c980983b4ff01d2f92", checked := Try.checked }
namespace Rows
def none {H : Type} : Left H := { results := [], args := [] }

/-- 'fenestralaw16.ModePuts': WHATEVER THE INPUT: true; the input reads as it did. -/
def modePutsSpec : ChangeSpec := { name := "modePuts", fn := fun _ => fun
  | [d1, d2, d3, d4, d5] => { results := [.lit (.bool true)], args := [d1, d2, d3, d4, d5] }
  | _ => none }
def modePutsRow : OpenClaim := { program := "ythmigjicibhheaa", sum := "c45dc50a7ad2accf312edefd9ea053d06f356d0e13ef98c980983b4ff01d2f92", func := "fenestra/fenestralaw16.ModePuts", spec := "modePuts", unfollowed := true, recurses := true, plainKeys := false, apart := false }
def ModePutsSaid : Prop := modePutsRow.holds Try.pinned (OpenSpec.ofChange modePutsSpec)

/-- ITS FALSE NEIGHBOUR: 'it returns false'. Refute it at one input. -/
def modePutsWrong : ChangeSpec := { name := "modePuts", fn := fun _ => fun
  | [d1, d2, d3, d4, d5] => { results := [.lit (.bool false)], args := [d1, d2, d3, d4, d5] }
  | _ => none }
def ModePutsWrongFalsely : Prop := modePutsRow.holds Try.pinned (OpenSpec.ofChange modePutsWrong)

/-- 'fenestralaw16.ModeStates': WHATEVER THE INPUT: true; the input reads as it did. -/
def modeStatesSpec : ChangeSpec := { name := "modeStates", fn := fun _ => fun
  | [d1, d2, d3, d4] => { results := [.lit (.bool true)], args := [d1, d2, d3, d4] }
  | _ => none }
def modeStatesRow : OpenClaim := { program := "ythmigjicibhheaa", sum := "c45dc50a7ad2accf312edefd9ea053d06f356d0e13ef98c980983b4ff01d2f92", func := "fenestra/fenestralaw16.ModeStates", spec := "modeStates", unfollowed := true, recurses := true, plainKeys := false, apart := false }
def ModeStatesSaid : Prop := modeStatesRow.holds Try.pinned (OpenSpec.ofChange modeStatesSpec)

/-- ITS FALSE NEIGHBOUR: 'it returns false'. Refute it at one input. -/
def modeStatesWrong : ChangeSpec := { name := "modeStates", fn := fun _ => fun
  | [d1, d2, d3, d4] => { results := [.lit (.bool false)], args := [d1, d2, d3, d4] }
  | _ => none }
def ModeStatesWrongFalsely : Prop := modeStatesRow.holds Try.pinned (OpenSpec.ofChange modeStatesWrong)

/-- 'fenestralaw16.ModeActs': WHATEVER THE INPUT: true; the input reads as it did. -/
def modeActsSpec : ChangeSpec := { name := "modeActs", fn := fun _ => fun
  | [d1, d2] => { results := [.lit (.bool true)], args := [d1, d2] }
  | _ => none }
def modeActsRow : OpenClaim := { program := "ythmigjicibhheaa", sum := "c45dc50a7ad2accf312edefd9ea053d06f356d0e13ef98c980983b4ff01d2f92", func := "fenestra/fenestralaw16.ModeActs", spec := "modeActs", unfollowed := true, recurses := true, plainKeys := false, apart := false }
def ModeActsSaid : Prop := modeActsRow.holds Try.pinned (OpenSpec.ofChange modeActsSpec)

/-- ITS FALSE NEIGHBOUR: 'it returns false'. Refute it at one input. -/
def modeActsWrong : ChangeSpec := { name := "modeActs", fn := fun _ => fun
  | [d1, d2] => { results := [.lit (.bool false)], args := [d1, d2] }
  | _ => none }
def ModeActsWrongFalsely : Prop := modeActsRow.holds Try.pinned (OpenSpec.ofChange modeActsWrong)

/-- 'fenestralaw16.ModeLeads': WHATEVER THE INPUT: true; the input reads as it did. -/
def modeLeadsSpec : ChangeSpec := { name := "modeLeads", fn := fun _ => fun
  | [d] => { results := [.lit (.bool true)], args := [d] }
  | _ => none }
def modeLeadsRow : OpenClaim := { program := "ythmigjicibhheaa", sum := "c45dc50a7ad2accf312edefd9ea053d06f356d0e13ef98c980983b4ff01d2f92", func := "fenestra/fenestralaw16.ModeLeads", spec := "modeLeads", unfollowed := true, recurses := true, plainKeys := false, apart := false }
def ModeLeadsSaid : Prop := modeLeadsRow.holds Try.pinned (OpenSpec.ofChange modeLeadsSpec)

/-- ITS FALSE NEIGHBOUR: 'it returns false'. Refute it at one input. -/
def modeLeadsWrong : ChangeSpec := { name := "modeLeads", fn := fun _ => fun
  | [d] => { results := [.lit (.bool false)], args := [d] }
  | _ => none }
def ModeLeadsWrongFalsely : Prop := modeLeadsRow.holds Try.pinned (OpenSpec.ofChange modeLeadsWrong)

/-- 'fenestralaw16.ModeAlone': WHATEVER THE INPUT: true; the input reads as it did. -/
def modeAloneSpec : ChangeSpec := { name := "modeAlone", fn := fun _ => fun
  | [d1, d2, d3, d4] => { results := [.lit (.bool true)], args := [d1, d2, d3, d4] }
  | _ => none }
def modeAloneRow : OpenClaim := { program := "ythmigjicibhheaa", sum := "c45dc50a7ad2accf312edefd9ea053d06f356d0e13ef98c980983b4ff01d2f92", func := "fenestra/fenestralaw16.ModeAlone", spec := "modeAlone", unfollowed := true, recurses := true, plainKeys := false, apart := false }
def ModeAloneSaid : Prop := modeAloneRow.holds Try.pinned (OpenSpec.ofChange modeAloneSpec)

/-- ITS FALSE NEIGHBOUR: 'it returns false'. Refute it at one input. -/
def modeAloneWrong : ChangeSpec := { name := "modeAlone", fn := fun _ => fun
  | [d1, d2, d3, d4] => { results := [.lit (.bool false)], args := [d1, d2, d3, d4] }
  | _ => none }
def ModeAloneWrongFalsely : Prop := modeAloneRow.holds Try.pinned (OpenSpec.ofChange modeAloneWrong)

/-- 'fenestralaw16.ModeKnown': WHATEVER THE INPUT: true; the input reads as it did. -/
def modeKnownSpec : ChangeSpec := { name := "modeKnown", fn := fun _ => fun
  | [] => { results := [.lit (.bool true)], args := [] }
  | _ => none }
def modeKnownRow : OpenClaim := { program := "ythmigjicibhheaa", sum := "c45dc50a7ad2accf312edefd9ea053d06f356d0e13ef98c980983b4ff01d2f92", func := "fenestra/fenestralaw16.ModeKnown", spec := "modeKnown", unfollowed := true, recurses := true, plainKeys := false, apart := false }
def ModeKnownSaid : Prop := modeKnownRow.holds Try.pinned (OpenSpec.ofChange modeKnownSpec)

/-- ITS FALSE NEIGHBOUR: 'it returns false'. Refute it at one input. -/
def modeKnownWrong : ChangeSpec := { name := "modeKnown", fn := fun _ => fun
  | [] => { results := [.lit (.bool false)], args := [] }
  | _ => none }
def ModeKnownWrongFalsely : Prop := modeKnownRow.holds Try.pinned (OpenSpec.ofChange modeKnownWrong)

/- THE SECOND FORM. 'bulk': how many values and letters a reading holds, each counted each time it is reached (what is shared counts as often as it is met; a slice's spare places count too). A statement '..UptoSaid' is the law's where the arguments, and the package variables that the reading takes, are together of bulk at most 1048576: NARROWER than '..Said'. Prove '..Said' where nothing that the law and all that it calls make is longer than what came in: it says more and counts as full. Else prove '..UptoSaid'. A law counts once. -/
mutual
def uptoBulk {H : Type} : DataW H → Nat
  | .lit (.string bytes) => bytes.length + 1
  | .lit _ => 1
  | .nil => 1
  | .ptr d => uptoBulk d + 1
  | .slice elems spare => uptoBulkAll elems + uptoBulkAll spare + 1
  | .agg parts => uptoBulkAll parts + 1
  | .iface _ d => uptoBulk d + 1
  | .map entries => uptoBulkEntries entries + 1
  | .held _ => 1
def uptoBulkAll {H : Type} : List (DataW H) → Nat
  | [] => 0
  | d :: r => uptoBulk d + uptoBulkAll r
def uptoBulkEntries {H : Type} : List (Lit × DataW H) → Nat
  | [] => 0
  | x :: r => uptoBulkEntry x + uptoBulkEntries r
def uptoBulkEntry {H : Type} : Lit × DataW H → Nat
  | (.string bytes, d) => bytes.length + uptoBulk d + 1
  | (_, d) => uptoBulk d + 1
 end
def uptoSmall : (H : Type) → List (DataW H) → Bool := fun _ ds => decide (uptoBulkAll ds ≤ 1048576)
def OpenSpec.upto (s : _root_.Go.ChangeSpec) : _root_.Go.OpenSpec := { _root_.Go.OpenSpec.ofChange s with cond := some uptoSmall }

/-- 'fenestralaw16.ModePuts', WHERE WHAT IT READS IS OF BULK AT MOST 1048576: true; the input reads as it did. -/
def modePutsUptoRow : OpenClaim := { program := "ythmigjicibhheaa", sum := "c45dc50a7ad2accf312edefd9ea053d06f356d0e13ef98c980983b4ff01d2f92", func := "fenestra/fenestralaw16.ModePuts", spec := "modePuts", unfollowed := true, recurses := true, plainKeys := false, apart := false, narrowed := true }
def ModePutsUptoSaid : Prop := modePutsUptoRow.holds Try.pinned (OpenSpec.upto modePutsSpec)

/-- 'fenestralaw16.ModeStates', WHERE WHAT IT READS IS OF BULK AT MOST 1048576: true; the input reads as it did. -/
def modeStatesUptoRow : OpenClaim := { program := "ythmigjicibhheaa", sum := "c45dc50a7ad2accf312edefd9ea053d06f356d0e13ef98c980983b4ff01d2f92", func := "fenestra/fenestralaw16.ModeStates", spec := "modeStates", unfollowed := true, recurses := true, plainKeys := false, apart := false, narrowed := true }
def ModeStatesUptoSaid : Prop := modeStatesUptoRow.holds Try.pinned (OpenSpec.upto modeStatesSpec)

/-- 'fenestralaw16.ModeActs', WHERE WHAT IT READS IS OF BULK AT MOST 1048576: true; the input reads as it did. -/
def modeActsUptoRow : OpenClaim := { program := "ythmigjicibhheaa", sum := "c45dc50a7ad2accf312edefd9ea053d06f356d0e13ef98c980983b4ff01d2f92", func := "fenestra/fenestralaw16.ModeActs", spec := "modeActs", unfollowed := true, recurses := true, plainKeys := false, apart := false, narrowed := true }
def ModeActsUptoSaid : Prop := modeActsUptoRow.holds Try.pinned (OpenSpec.upto modeActsSpec)

/-- 'fenestralaw16.ModeLeads', WHERE WHAT IT READS IS OF BULK AT MOST 1048576: true; the input reads as it did. -/
def modeLeadsUptoRow : OpenClaim := { program := "ythmigjicibhheaa", sum := "c45dc50a7ad2accf312edefd9ea053d06f356d0e13ef98c980983b4ff01d2f92", func := "fenestra/fenestralaw16.ModeLeads", spec := "modeLeads", unfollowed := true, recurses := true, plainKeys := false, apart := false, narrowed := true }
def ModeLeadsUptoSaid : Prop := modeLeadsUptoRow.holds Try.pinned (OpenSpec.upto modeLeadsSpec)

/-- 'fenestralaw16.ModeAlone', WHERE WHAT IT READS IS OF BULK AT MOST 1048576: true; the input reads as it did. -/
def modeAloneUptoRow : OpenClaim := { program := "ythmigjicibhheaa", sum := "c45dc50a7ad2accf312edefd9ea053d06f356d0e13ef98c980983b4ff01d2f92", func := "fenestra/fenestralaw16.ModeAlone", spec := "modeAlone", unfollowed := true, recurses := true, plainKeys := false, apart := false, narrowed := true }
def ModeAloneUptoSaid : Prop := modeAloneUptoRow.holds Try.pinned (OpenSpec.upto modeAloneSpec)

/-- 'fenestralaw16.ModeKnown', WHERE WHAT IT READS IS OF BULK AT MOST 1048576: true; the input reads as it did. -/
def modeKnownUptoRow : OpenClaim := { program := "ythmigjicibhheaa", sum := "c45dc50a7ad2accf312edefd9ea053d06f356d0e13ef98c980983b4ff01d2f92", func := "fenestra/fenestralaw16.ModeKnown", spec := "modeKnown", unfollowed := true, recurses := true, plainKeys := false, apart := false, narrowed := true }
def ModeKnownUptoSaid : Prop := modeKnownUptoRow.holds Try.pinned (OpenSpec.upto modeKnownSpec)

end Rows
end Go.Proofs.Ythmigjicibhheaa
