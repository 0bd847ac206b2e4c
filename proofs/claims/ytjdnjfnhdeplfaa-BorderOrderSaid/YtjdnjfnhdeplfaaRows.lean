/-
  No cell of these rows narrows 'for every input' (looked for: loops, veiled, ifaces, maps, wideKeys, modest, calm, conditions, laid).
  DERIVED. THE GIVEN ROWS OF THIS SEAT. 5 by the template 'for every input the law returns true; each argument reads behind the call as it read before'; 0 by the template 'total and deterministic' (their statements: YtjdnjfnhdeplfaaTotals.lean).
  GIVEN WITH THE SEED: the statements are not yours to turn. If you find one false, say at which input.
  Laid BY PROGRAM, IN A SANDBOX (cutbox-rows.mjs): the forced cells as the released guide's own fill.sh prints them over the translation 3ef3556d6ca512e5… (all of the seat's roots in one cut). By AI agents, Wed Nov 11 2026. No macro, syntax, notation, axiom, sorry.
-/
import Derived.Test.YtjdnjfnhdeplfaaChecked
import GoSem.Claim
import GoSem.ClaimJoined
import GoSem.ClaimMapViews
import Derived.JoinedTies
import Derived.KernelRfl
namespace Go.Proofs.Ytjdnjfnhdeplfaa
/- THE CELL 'sum', in the pinned program and in every row, IS THE sha256 OF THE DUMP (.gsa) THAT YtjdnjfnhdeplfaaProg.lean LOADS. Nothing in Lean hashes anything: it is a label: what it is worth is what the hold of that sum in a sandbox is worth. -/
noncomputable def Try.pinned : Pinned := { name := "ytjdnjfnhdeplfaa", sum := "3ef3556d6ca512e522774d8e0809d7091a2aec0ae511afa881d9f34430b89c90", checked := Try.checked }
namespace Rows
def none {H : Type} : Left H := { results := [], args := [] }

/-- 'fenestralaw35.BorderCells': WHATEVER THE INPUT: true; the input reads as it did. -/
def borderCellsSpec : ChangeSpec := { name := "borderCells", fn := fun _ => fun
  | [d1, d2, d3, d4] => { results := [.lit (.bool true)], args := [d1, d2, d3, d4] }
  | _ => none }
def borderCellsRow : OpenClaim := { program := "ytjdnjfnhdeplfaa", sum := "3ef3556d6ca512e522774d8e0809d7091a2aec0ae511afa881d9f34430b89c90", func := "fenestra/fenestralaw35.BorderCells", spec := "borderCells", unfollowed := true, recurses := true, plainKeys := false, apart := false }
def BorderCellsSaid : Prop := borderCellsRow.holds Try.pinned (OpenSpec.ofChange borderCellsSpec)

/-- ITS FALSE NEIGHBOUR: 'it returns false'. Refute it at one input. -/
def borderCellsWrong : ChangeSpec := { name := "borderCells", fn := fun _ => fun
  | [d1, d2, d3, d4] => { results := [.lit (.bool false)], args := [d1, d2, d3, d4] }
  | _ => none }
def BorderCellsWrongFalsely : Prop := borderCellsRow.holds Try.pinned (OpenSpec.ofChange borderCellsWrong)

/-- 'fenestralaw35.BorderCodes': WHATEVER THE INPUT: true; the input reads as it did. -/
def borderCodesSpec : ChangeSpec := { name := "borderCodes", fn := fun _ => fun
  | [d1, d2, d3, d4] => { results := [.lit (.bool true)], args := [d1, d2, d3, d4] }
  | _ => none }
def borderCodesRow : OpenClaim := { program := "ytjdnjfnhdeplfaa", sum := "3ef3556d6ca512e522774d8e0809d7091a2aec0ae511afa881d9f34430b89c90", func := "fenestra/fenestralaw35.BorderCodes", spec := "borderCodes", unfollowed := true, recurses := true, plainKeys := false, apart := false }
def BorderCodesSaid : Prop := borderCodesRow.holds Try.pinned (OpenSpec.ofChange borderCodesSpec)

/-- ITS FALSE NEIGHBOUR: 'it returns false'. Refute it at one input. -/
def borderCodesWrong : ChangeSpec := { name := "borderCodes", fn := fun _ => fun
  | [d1, d2, d3, d4] => { results := [.lit (.bool false)], args := [d1, d2, d3, d4] }
  | _ => none }
def BorderCodesWrongFalsely : Prop := borderCodesRow.holds Try.pinned (OpenSpec.ofChange borderCodesWrong)

/-- 'fenestralaw35.BorderJoins': WHATEVER THE INPUT: true; the input reads as it did. -/
def borderJoinsSpec : ChangeSpec := { name := "borderJoins", fn := fun _ => fun
  | [d] => { results := [.lit (.bool true)], args := [d] }
  | _ => none }
def borderJoinsRow : OpenClaim := { program := "ytjdnjfnhdeplfaa", sum := "3ef3556d6ca512e522774d8e0809d7091a2aec0ae511afa881d9f34430b89c90", func := "fenestra/fenestralaw35.BorderJoins", spec := "borderJoins", unfollowed := true, recurses := true, plainKeys := false, apart := false }
def BorderJoinsSaid : Prop := borderJoinsRow.holds Try.pinned (OpenSpec.ofChange borderJoinsSpec)

/-- ITS FALSE NEIGHBOUR: 'it returns false'. Refute it at one input. -/
def borderJoinsWrong : ChangeSpec := { name := "borderJoins", fn := fun _ => fun
  | [d] => { results := [.lit (.bool false)], args := [d] }
  | _ => none }
def BorderJoinsWrongFalsely : Prop := borderJoinsRow.holds Try.pinned (OpenSpec.ofChange borderJoinsWrong)

/-- 'fenestralaw35.BorderOrder': WHATEVER THE INPUT: true; the input reads as it did. -/
def borderOrderSpec : ChangeSpec := { name := "borderOrder", fn := fun _ => fun
  | [d1, d2, d3, d4] => { results := [.lit (.bool true)], args := [d1, d2, d3, d4] }
  | _ => none }
def borderOrderRow : OpenClaim := { program := "ytjdnjfnhdeplfaa", sum := "3ef3556d6ca512e522774d8e0809d7091a2aec0ae511afa881d9f34430b89c90", func := "fenestra/fenestralaw35.BorderOrder", spec := "borderOrder", unfollowed := true, recurses := true, plainKeys := false, apart := false }
def BorderOrderSaid : Prop := borderOrderRow.holds Try.pinned (OpenSpec.ofChange borderOrderSpec)

/-- ITS FALSE NEIGHBOUR: 'it returns false'. Refute it at one input. -/
def borderOrderWrong : ChangeSpec := { name := "borderOrder", fn := fun _ => fun
  | [d1, d2, d3, d4] => { results := [.lit (.bool false)], args := [d1, d2, d3, d4] }
  | _ => none }
def BorderOrderWrongFalsely : Prop := borderOrderRow.holds Try.pinned (OpenSpec.ofChange borderOrderWrong)

/-- 'fenestralaw35.BorderKnown': WHATEVER THE INPUT: true; the input reads as it did. -/
def borderKnownSpec : ChangeSpec := { name := "borderKnown", fn := fun _ => fun
  | [] => { results := [.lit (.bool true)], args := [] }
  | _ => none }
def borderKnownRow : OpenClaim := { program := "ytjdnjfnhdeplfaa", sum := "3ef3556d6ca512e522774d8e0809d7091a2aec0ae511afa881d9f34430b89c90", func := "fenestra/fenestralaw35.BorderKnown", spec := "borderKnown", unfollowed := true, recurses := true, plainKeys := false, apart := false }
def BorderKnownSaid : Prop := borderKnownRow.holds Try.pinned (OpenSpec.ofChange borderKnownSpec)

/-- ITS FALSE NEIGHBOUR: 'it returns false'. Refute it at one input. -/
def borderKnownWrong : ChangeSpec := { name := "borderKnown", fn := fun _ => fun
  | [] => { results := [.lit (.bool false)], args := [] }
  | _ => none }
def BorderKnownWrongFalsely : Prop := borderKnownRow.holds Try.pinned (OpenSpec.ofChange borderKnownWrong)

/- THE SECOND FORM. 'bulk': how many values and letters a reading holds, each counted each time it is reached (what is shared counts as often as it is met; a slice's spare places count too). A statement '..UptoSaid' is the law's where the arguments, and the package variables that the reading takes, are together of bulk at most 1048576: NARROWER than '..Said'. Prove '..Said' where nothing that the law and all that it calls make is longer than what came in: it says more and counts as full. Else prove '..UptoSaid'. A law counts once. -/
mutual
def uptoBulk {H : Type} : DataW H → Nat
  | .lit (.string bytes) => bytes.length + 1
  | .lit _ => 1
  | .nil => 1
  | .ptr d => uptoBulk d + 1
  | .slice elems spare => uptoBulkAll elems + uptoBulkAll spare + 1
  | .agg parts => uptoBulkAll parts + 1
  | .iface _ d => uptoBulk d + 1
  | .map entries => uptoBulkEntries entries + 1
  | .held _ => 1
def uptoBulkAll {H : Type} : List (DataW H) → Nat
  | [] => 0
  | d :: r => uptoBulk d + uptoBulkAll r
def uptoBulkEntries {H : Type} : List (Lit × DataW H) → Nat
  | [] => 0
  | x :: r => uptoBulkEntry x + uptoBulkEntries r
def uptoBulkEntry {H : Type} : Lit × DataW H → Nat
  | (.string bytes, d) => bytes.length + uptoBulk d + 1
  | (_, d) => uptoBulk d + 1
 end
def uptoSmall : (H : Type) → List (DataW H) → Bool := fun _ ds => decide (uptoBulkAll ds ≤ 1048576)
def OpenSpec.upto (s : _root_.Go.ChangeSpec) : _root_.Go.OpenSpec := { _root_.Go.OpenSpec.ofChange s with cond := some uptoSmall }

/-- 'fenestralaw35.BorderCells', WHERE WHAT IT READS IS OF BULK AT MOST 1048576: true; the input reads as it did. -/
def borderCellsUptoRow : OpenClaim := { program := "ytjdnjfnhdeplfaa", sum := "3ef3556d6ca512e522774d8e0809d7091a2aec0ae511afa881d9f34430b89c90", func := "fenestra/fenestralaw35.BorderCells", spec := "borderCells", unfollowed := true, recurses := true, plainKeys := false, apart := false, narrowed := true }
def BorderCellsUptoSaid : Prop := borderCellsUptoRow.holds Try.pinned (OpenSpec.upto borderCellsSpec)

/-- 'fenestralaw35.BorderCodes', WHERE WHAT IT READS IS OF BULK AT MOST 1048576: true; the input reads as it did. -/
def borderCodesUptoRow : OpenClaim := { program := "ytjdnjfnhdeplfaa", sum := "3ef3556d6ca512e522774d8e0809d7091a2aec0ae511afa881d9f34430b89c90", func := "fenestra/fenestralaw35.BorderCodes", spec := "borderCodes", unfollowed := true, recurses := true, plainKeys := false, apart := false, narrowed := true }
def BorderCodesUptoSaid : Prop := borderCodesUptoRow.holds Try.pinned (OpenSpec.upto borderCodesSpec)

/-- 'fenestralaw35.BorderJoins', WHERE WHAT IT READS IS OF BULK AT MOST 1048576: true; the input reads as it did. -/
def borderJoinsUptoRow : OpenClaim := { program := "ytjdnjfnhdeplfaa", sum := "3ef3556d6ca512e522774d8e0809d7091a2aec0ae511afa881d9f34430b89c90", func := "fenestra/fenestralaw35.BorderJoins", spec := "borderJoins", unfollowed := true, recurses := true, plainKeys := false, apart := false, narrowed := true }
def BorderJoinsUptoSaid : Prop := borderJoinsUptoRow.holds Try.pinned (OpenSpec.upto borderJoinsSpec)

/-- 'fenestralaw35.BorderOrder', WHERE WHAT IT READS IS OF BULK AT MOST 1048576: true; the input reads as it did. -/
def borderOrderUptoRow : OpenClaim := { program := "ytjdnjfnhdeplfaa", sum := "3ef3556d6ca512e522774d8e0809d7091a2aec0ae511afa881d9f34430b89c90", func := "fenestra/fenestralaw35.BorderOrder", spec := "borderOrder", unfollowed := true, recurses := true, plainKeys := false, apart := false, narrowed := true }
def BorderOrderUptoSaid : Prop := borderOrderUptoRow.holds Try.pinned (OpenSpec.upto borderOrderSpec)

/-- 'fenestralaw35.BorderKnown', WHERE WHAT IT READS IS OF BULK AT MOST 1048576: true; the input reads as it did. -/
def borderKnownUptoRow : OpenClaim := { program := "ytjdnjfnhdeplfaa", sum := "3ef3556d6ca512e522774d8e0809d7091a2aec0ae511afa881d9f34430b89c90", func := "fenestra/fenestralaw35.BorderKnown", spec := "borderKnown", unfollowed := true, recurses := true, plainKeys := false, apart := false, narrowed := true }
def BorderKnownUptoSaid : Prop := borderKnownUptoRow.holds Try.pinned (OpenSpec.upto borderKnownSpec)

end Rows
end Go.Proofs.Ytjdnjfnhdeplfaa
