/-
  NARROWER THAN 'FOR EVERY INPUT', by the rows' own cells (each row's printed sentence says how): PickTexts: laid · PickLines: laid · PickFinds: laid · PickWords: laid · PickFound: laid · PickSplits: laid.
  DERIVED. THE GIVEN ROWS OF THIS SEAT. 6 by the template 'for every input the law returns true; each argument reads behind the call as it read before'; 0 by the template 'total and deterministic' (their statements: YtdkdbjgkedahfaaDoorTotals.lean).
  GIVEN WITH THE SEED: the statements are not yours to turn. If you find one false, say at which input.
  Laid BY PROGRAM, IN A SANDBOX (cutbox-rows.mjs): the forced cells as the released guide's own fill.sh prints them over the translation d7d6e10a60a7188c… (all of the seat's roots in one cut). By AI agents, Wed Nov 11 2026. No macro, syntax, notation, axiom, sorry.
-/
import Derived.Test.YtdkdbjgkedahfaaDoorChecked
import GoSem.Claim
import GoSem.ClaimJoined
import GoSem.ClaimMapViews
import Derived.JoinedTies
import Derived.KernelRfl
namespace Go.Proofs.YtdkdbjgkedahfaaDoor
/- THE CELL 'sum', in the pinned program and in every row, IS THE sha256 OF THE DUMP (.gsa) THAT YtdkdbjgkedahfaaDoorProg.lean LOADS. Nothing in Lean hashes anything: it is a label: what it is worth is what the hold of that sum in a sandbox is worth. -/
noncomputable def Tryd.pinned : Pinned := { name := "ytdkdbjgkedahfaadoor", sum := "d7d6e10a60a7188c28694657c3e2836eaa88cd6eba9380bcc4075255600c6015", checked := Tryd.checked }
namespace Rows
def none {H : Type} : Left H := { results := [], args := [] }

/- WHAT THE LISTED PACKAGE-LEVEL VARIABLES READ AS WHEN THE CALL BEGINS. Each datum BY PROGRAM (the guide's laid-datum.mjs) off the statement by which the dump's own 'gosem.cut.vars' lays the variable. In a bare row this is a premise. The card (YtdkdbjgkedahfaaDoorCards.lean) ties it to the program's text. -/
def laid_fenestra_width_marks {H : Type} : DataW H := .agg [.agg [.lit (.int .i64 768), .lit (.int .i64 879)], .agg [.lit (.int .i64 1155), .lit (.int .i64 1161)], .agg [.lit (.int .i64 1425), .lit (.int .i64 1469)], .agg [.lit (.int .i64 1552), .lit (.int .i64 1562)], .agg [.lit (.int .i64 1611), .lit (.int .i64 1631)], .agg [.lit (.int .i64 6832), .lit (.int .i64 6911)], .agg [.lit (.int .i64 7616), .lit (.int .i64 7679)], .agg [.lit (.int .i64 8203), .lit (.int .i64 8207)], .agg [.lit (.int .i64 8400), .lit (.int .i64 8447)], .agg [.lit (.int .i64 65024), .lit (.int .i64 65039)], .agg [.lit (.int .i64 65056), .lit (.int .i64 65071)]]
def laid_fenestra_width_wides {H : Type} : DataW H := .agg [.agg [.lit (.int .i64 4352), .lit (.int .i64 4447)], .agg [.lit (.int .i64 11904), .lit (.int .i64 12350)], .agg [.lit (.int .i64 12353), .lit (.int .i64 19903)], .agg [.lit (.int .i64 19968), .lit (.int .i64 42191)], .agg [.lit (.int .i64 44032), .lit (.int .i64 55203)], .agg [.lit (.int .i64 63744), .lit (.int .i64 64255)], .agg [.lit (.int .i64 65072), .lit (.int .i64 65135)], .agg [.lit (.int .i64 65280), .lit (.int .i64 65376)], .agg [.lit (.int .i64 65504), .lit (.int .i64 65510)], .agg [.lit (.int .i64 127744), .lit (.int .i64 128591)], .agg [.lit (.int .i64 128640), .lit (.int .i64 128767)], .agg [.lit (.int .i64 129280), .lit (.int .i64 129535)], .agg [.lit (.int .i64 131072), .lit (.int .i64 262141)]]

/-- 'fenestralaw32.PickTexts': WHATEVER THE INPUT: true; the input reads as it did. -/
def pickTextsSpec : ChangeSpec := { name := "pickTexts", fn := fun _ => fun
  | [d1, d2, d3, d4] => { results := [.lit (.bool true)], args := [d1, d2, d3, d4] }
  | _ => none }
def pickTextsRow : OpenClaim := { program := "ytdkdbjgkedahfaadoor", sum := "d7d6e10a60a7188c28694657c3e2836eaa88cd6eba9380bcc4075255600c6015", func := "fenestra/fenestralaw32.PickTexts", spec := "pickTexts", inPlace := ["internal/abi.NoEscape", "internal/bytealg.IndexByteString", "internal/bytealg.IndexString"], unfollowed := true, recurses := true, named := ["fenestra/width.marks", "fenestra/width.wides", "internal/bytealg.MaxLen"], apart := false, laid := [("fenestra/width.marks", laid_fenestra_width_marks), ("fenestra/width.wides", laid_fenestra_width_wides)] }
def PickTextsSaid : Prop := pickTextsRow.holds Tryd.pinned (OpenSpec.ofChange pickTextsSpec)

/-- ITS FALSE NEIGHBOUR: 'it returns false'. Refute it at one input. -/
def pickTextsWrong : ChangeSpec := { name := "pickTexts", fn := fun _ => fun
  | [d1, d2, d3, d4] => { results := [.lit (.bool false)], args := [d1, d2, d3, d4] }
  | _ => none }
def PickTextsWrongFalsely : Prop := pickTextsRow.holds Tryd.pinned (OpenSpec.ofChange pickTextsWrong)

/-- 'fenestralaw32.PickLines': WHATEVER THE INPUT: true; the input reads as it did. -/
def pickLinesSpec : ChangeSpec := { name := "pickLines", fn := fun _ => fun
  | [d1, d2, d3, d4] => { results := [.lit (.bool true)], args := [d1, d2, d3, d4] }
  | _ => none }
def pickLinesRow : OpenClaim := { program := "ytdkdbjgkedahfaadoor", sum := "d7d6e10a60a7188c28694657c3e2836eaa88cd6eba9380bcc4075255600c6015", func := "fenestra/fenestralaw32.PickLines", spec := "pickLines", inPlace := ["internal/bytealg.IndexByteString", "internal/bytealg.IndexString", "internal/abi.NoEscape"], unfollowed := true, recurses := true, named := ["fenestra/width.marks", "fenestra/width.wides", "internal/bytealg.MaxLen"], apart := false, laid := [("fenestra/width.marks", laid_fenestra_width_marks), ("fenestra/width.wides", laid_fenestra_width_wides)] }
def PickLinesSaid : Prop := pickLinesRow.holds Tryd.pinned (OpenSpec.ofChange pickLinesSpec)

/-- ITS FALSE NEIGHBOUR: 'it returns false'. Refute it at one input. -/
def pickLinesWrong : ChangeSpec := { name := "pickLines", fn := fun _ => fun
  | [d1, d2, d3, d4] => { results := [.lit (.bool false)], args := [d1, d2, d3, d4] }
  | _ => none }
def PickLinesWrongFalsely : Prop := pickLinesRow.holds Tryd.pinned (OpenSpec.ofChange pickLinesWrong)

/-- 'fenestralaw32.PickFinds': WHATEVER THE INPUT: true; the input reads as it did. -/
def pickFindsSpec : ChangeSpec := { name := "pickFinds", fn := fun _ => fun
  | [d1, d2, d3, d4, d5] => { results := [.lit (.bool true)], args := [d1, d2, d3, d4, d5] }
  | _ => none }
def pickFindsRow : OpenClaim := { program := "ytdkdbjgkedahfaadoor", sum := "d7d6e10a60a7188c28694657c3e2836eaa88cd6eba9380bcc4075255600c6015", func := "fenestra/fenestralaw32.PickFinds", spec := "pickFinds", inPlace := ["internal/abi.NoEscape", "internal/bytealg.IndexByteString", "internal/bytealg.IndexString"], unfollowed := true, recurses := true, named := ["fenestra/width.marks", "fenestra/width.wides", "internal/bytealg.MaxLen"], apart := false, laid := [("fenestra/width.marks", laid_fenestra_width_marks), ("fenestra/width.wides", laid_fenestra_width_wides)] }
def PickFindsSaid : Prop := pickFindsRow.holds Tryd.pinned (OpenSpec.ofChange pickFindsSpec)

/-- ITS FALSE NEIGHBOUR: 'it returns false'. Refute it at one input. -/
def pickFindsWrong : ChangeSpec := { name := "pickFinds", fn := fun _ => fun
  | [d1, d2, d3, d4, d5] => { results := [.lit (.bool false)], args := [d1, d2, d3, d4, d5] }
  | _ => none }
def PickFindsWrongFalsely : Prop := pickFindsRow.holds Tryd.pinned (OpenSpec.ofChange pickFindsWrong)

/-- 'fenestralaw32.PickWords': WHATEVER THE INPUT: true; the input reads as it did. -/
def pickWordsSpec : ChangeSpec := { name := "pickWords", fn := fun _ => fun
  | [d1, d2] => { results := [.lit (.bool true)], args := [d1, d2] }
  | _ => none }
def pickWordsRow : OpenClaim := { program := "ytdkdbjgkedahfaadoor", sum := "d7d6e10a60a7188c28694657c3e2836eaa88cd6eba9380bcc4075255600c6015", func := "fenestra/fenestralaw32.PickWords", spec := "pickWords", inPlace := ["internal/abi.NoEscape", "internal/bytealg.IndexByteString", "internal/bytealg.IndexString"], unfollowed := true, recurses := true, named := ["fenestra/width.marks", "fenestra/width.wides", "internal/bytealg.MaxLen"], apart := false, laid := [("fenestra/width.marks", laid_fenestra_width_marks), ("fenestra/width.wides", laid_fenestra_width_wides)] }
def PickWordsSaid : Prop := pickWordsRow.holds Tryd.pinned (OpenSpec.ofChange pickWordsSpec)

/-- ITS FALSE NEIGHBOUR: 'it returns false'. Refute it at one input. -/
def pickWordsWrong : ChangeSpec := { name := "pickWords", fn := fun _ => fun
  | [d1, d2] => { results := [.lit (.bool false)], args := [d1, d2] }
  | _ => none }
def PickWordsWrongFalsely : Prop := pickWordsRow.holds Tryd.pinned (OpenSpec.ofChange pickWordsWrong)

/-- 'fenestralaw32.PickFound': WHATEVER THE INPUT: true; the input reads as it did. -/
def pickFoundSpec : ChangeSpec := { name := "pickFound", fn := fun _ => fun
  | [d1, d2] => { results := [.lit (.bool true)], args := [d1, d2] }
  | _ => none }
def pickFoundRow : OpenClaim := { program := "ytdkdbjgkedahfaadoor", sum := "d7d6e10a60a7188c28694657c3e2836eaa88cd6eba9380bcc4075255600c6015", func := "fenestra/fenestralaw32.PickFound", spec := "pickFound", inPlace := ["internal/abi.NoEscape", "internal/bytealg.IndexByteString", "internal/bytealg.IndexString", "internal/bytealg.MakeNoZero"], unfollowed := true, recurses := true, named := ["fenestra/width.marks", "fenestra/width.wides", "internal/bytealg.MaxLen"], apart := false, laid := [("fenestra/width.marks", laid_fenestra_width_marks), ("fenestra/width.wides", laid_fenestra_width_wides)] }
def PickFoundSaid : Prop := pickFoundRow.holds Tryd.pinned (OpenSpec.ofChange pickFoundSpec)

/-- ITS FALSE NEIGHBOUR: 'it returns false'. Refute it at one input. -/
def pickFoundWrong : ChangeSpec := { name := "pickFound", fn := fun _ => fun
  | [d1, d2] => { results := [.lit (.bool false)], args := [d1, d2] }
  | _ => none }
def PickFoundWrongFalsely : Prop := pickFoundRow.holds Tryd.pinned (OpenSpec.ofChange pickFoundWrong)

/-- 'fenestralaw32.PickSplits': WHATEVER THE INPUT: true; the input reads as it did. -/
def pickSplitsSpec : ChangeSpec := { name := "pickSplits", fn := fun _ => fun
  | [d] => { results := [.lit (.bool true)], args := [d] }
  | _ => none }
def pickSplitsRow : OpenClaim := { program := "ytdkdbjgkedahfaadoor", sum := "d7d6e10a60a7188c28694657c3e2836eaa88cd6eba9380bcc4075255600c6015", func := "fenestra/fenestralaw32.PickSplits", spec := "pickSplits", inPlace := ["internal/abi.NoEscape", "internal/bytealg.IndexByteString", "internal/bytealg.IndexString", "internal/bytealg.CountString", "internal/bytealg.MakeNoZero"], unfollowed := true, recurses := true, named := ["fenestra/width.marks", "fenestra/width.wides", "internal/bytealg.MaxLen"], apart := false, laid := [("fenestra/width.marks", laid_fenestra_width_marks), ("fenestra/width.wides", laid_fenestra_width_wides)] }
def PickSplitsSaid : Prop := pickSplitsRow.holds Tryd.pinned (OpenSpec.ofChange pickSplitsSpec)

/-- ITS FALSE NEIGHBOUR: 'it returns false'. Refute it at one input. -/
def pickSplitsWrong : ChangeSpec := { name := "pickSplits", fn := fun _ => fun
  | [d] => { results := [.lit (.bool false)], args := [d] }
  | _ => none }
def PickSplitsWrongFalsely : Prop := pickSplitsRow.holds Tryd.pinned (OpenSpec.ofChange pickSplitsWrong)

/- THE SECOND FORM. 'bulk': how many values and letters a reading holds, each counted each time it is reached (what is shared counts as often as it is met; a slice's spare places count too). A statement '..UptoSaid' is the law's where the arguments, and the package variables that the reading takes, are together of bulk at most 1048576: NARROWER than '..Said'. Prove '..Said' where nothing that the law and all that it calls make is longer than what came in: it says more and counts as full. Else prove '..UptoSaid'. A law counts once. -/
mutual
def uptoBulk {H : Type} : DataW H → Nat
  | .lit (.string bytes) => bytes.length + 1
  | .lit _ => 1
  | .nil => 1
  | .ptr d => uptoBulk d + 1
  | .slice elems spare => uptoBulkAll elems + uptoBulkAll spare + 1
  | .agg parts => uptoBulkAll parts + 1
  | .iface _ d => uptoBulk d + 1
  | .map entries => uptoBulkEntries entries + 1
  | .held _ => 1
def uptoBulkAll {H : Type} : List (DataW H) → Nat
  | [] => 0
  | d :: r => uptoBulk d + uptoBulkAll r
def uptoBulkEntries {H : Type} : List (Lit × DataW H) → Nat
  | [] => 0
  | x :: r => uptoBulkEntry x + uptoBulkEntries r
def uptoBulkEntry {H : Type} : Lit × DataW H → Nat
  | (.string bytes, d) => bytes.length + uptoBulk d + 1
  | (_, d) => uptoBulk d + 1
 end
def uptoSmall : (H : Type) → List (DataW H) → Bool := fun _ ds => decide (uptoBulkAll ds ≤ 1048576)
def OpenSpec.upto (s : _root_.Go.ChangeSpec) : _root_.Go.OpenSpec := { _root_.Go.OpenSpec.ofChange s with cond := some uptoSmall }

/-- 'fenestralaw32.PickTexts', WHERE WHAT IT READS IS OF BULK AT MOST 1048576: true; the input reads as it did. -/
def pickTextsUptoRow : OpenClaim := { program := "ytdkdbjgkedahfaadoor", sum := "d7d6e10a60a7188c28694657c3e2836eaa88cd6eba9380bcc4075255600c6015", func := "fenestra/fenestralaw32.PickTexts", spec := "pickTexts", inPlace := ["internal/abi.NoEscape", "internal/bytealg.IndexByteString", "internal/bytealg.IndexString"], unfollowed := true, recurses := true, named := ["fenestra/width.marks", "fenestra/width.wides", "internal/bytealg.MaxLen"], apart := false, laid := [("fenestra/width.marks", laid_fenestra_width_marks), ("fenestra/width.wides", laid_fenestra_width_wides)], narrowed := true }
def PickTextsUptoSaid : Prop := pickTextsUptoRow.holds Tryd.pinned (OpenSpec.upto pickTextsSpec)

/-- 'fenestralaw32.PickLines', WHERE WHAT IT READS IS OF BULK AT MOST 1048576: true; the input reads as it did. -/
def pickLinesUptoRow : OpenClaim := { program := "ytdkdbjgkedahfaadoor", sum := "d7d6e10a60a7188c28694657c3e2836eaa88cd6eba9380bcc4075255600c6015", func := "fenestra/fenestralaw32.PickLines", spec := "pickLines", inPlace := ["internal/bytealg.IndexByteString", "internal/bytealg.IndexString", "internal/abi.NoEscape"], unfollowed := true, recurses := true, named := ["fenestra/width.marks", "fenestra/width.wides", "internal/bytealg.MaxLen"], apart := false, laid := [("fenestra/width.marks", laid_fenestra_width_marks), ("fenestra/width.wides", laid_fenestra_width_wides)], narrowed := true }
def PickLinesUptoSaid : Prop := pickLinesUptoRow.holds Tryd.pinned (OpenSpec.upto pickLinesSpec)

/-- 'fenestralaw32.PickFinds', WHERE WHAT IT READS IS OF BULK AT MOST 1048576: true; the input reads as it did. -/
def pickFindsUptoRow : OpenClaim := { program := "ytdkdbjgkedahfaadoor", sum := "d7d6e10a60a7188c28694657c3e2836eaa88cd6eba9380bcc4075255600c6015", func := "fenestra/fenestralaw32.PickFinds", spec := "pickFinds", inPlace := ["internal/abi.NoEscape", "internal/bytealg.IndexByteString", "internal/bytealg.IndexString"], unfollowed := true, recurses := true, named := ["fenestra/width.marks", "fenestra/width.wides", "internal/bytealg.MaxLen"], apart := false, laid := [("fenestra/width.marks", laid_fenestra_width_marks), ("fenestra/width.wides", laid_fenestra_width_wides)], narrowed := true }
def PickFindsUptoSaid : Prop := pickFindsUptoRow.holds Tryd.pinned (OpenSpec.upto pickFindsSpec)

/-- 'fenestralaw32.PickWords', WHERE WHAT IT READS IS OF BULK AT MOST 1048576: true; the input reads as it did. -/
def pickWordsUptoRow : OpenClaim := { program := "ytdkdbjgkedahfaadoor", sum := "d7d6e10a60a7188c28694657c3e2836eaa88cd6eba9380bcc4075255600c6015", func := "fenestra/fenestralaw32.PickWords", spec := "pickWords", inPlace := ["internal/abi.NoEscape", "internal/bytealg.IndexByteString", "internal/bytealg.IndexString"], unfollowed := true, recurses := true, named := ["fenestra/width.marks", "fenestra/width.wides", "internal/bytealg.MaxLen"], apart := false, laid := [("fenestra/width.marks", laid_fenestra_width_marks), ("fenestra/width.wides", laid_fenestra_width_wides)], narrowed := true }
def PickWordsUptoSaid : Prop := pickWordsUptoRow.holds Tryd.pinned (OpenSpec.upto pickWordsSpec)

/-- 'fenestralaw32.PickFound', WHERE WHAT IT READS IS OF BULK AT MOST 1048576: true; the input reads as it did. -/
def pickFoundUptoRow : OpenClaim := { program := "ytdkdbjgkedahfaadoor", sum := "d7d6e10a60a7188c28694657c3e2836eaa88cd6eba9380bcc4075255600c6015", func := "fenestra/fenestralaw32.PickFound", spec := "pickFound", inPlace := ["internal/abi.NoEscape", "internal/bytealg.IndexByteString", "internal/bytealg.IndexString", "internal/bytealg.MakeNoZero"], unfollowed := true, recurses := true, named := ["fenestra/width.marks", "fenestra/width.wides", "internal/bytealg.MaxLen"], apart := false, laid := [("fenestra/width.marks", laid_fenestra_width_marks), ("fenestra/width.wides", laid_fenestra_width_wides)], narrowed := true }
def PickFoundUptoSaid : Prop := pickFoundUptoRow.holds Tryd.pinned (OpenSpec.upto pickFoundSpec)

/-- 'fenestralaw32.PickSplits', WHERE WHAT IT READS IS OF BULK AT MOST 1048576: true; the input reads as it did. -/
def pickSplitsUptoRow : OpenClaim := { program := "ytdkdbjgkedahfaadoor", sum := "d7d6e10a60a7188c28694657c3e2836eaa88cd6eba9380bcc4075255600c6015", func := "fenestra/fenestralaw32.PickSplits", spec := "pickSplits", inPlace := ["internal/abi.NoEscape", "internal/bytealg.IndexByteString", "internal/bytealg.IndexString", "internal/bytealg.CountString", "internal/bytealg.MakeNoZero"], unfollowed := true, recurses := true, named := ["fenestra/width.marks", "fenestra/width.wides", "internal/bytealg.MaxLen"], apart := false, laid := [("fenestra/width.marks", laid_fenestra_width_marks), ("fenestra/width.wides", laid_fenestra_width_wides)], narrowed := true }
def PickSplitsUptoSaid : Prop := pickSplitsUptoRow.holds Tryd.pinned (OpenSpec.upto pickSplitsSpec)

end Rows
end Go.Proofs.YtdkdbjgkedahfaaDoor
