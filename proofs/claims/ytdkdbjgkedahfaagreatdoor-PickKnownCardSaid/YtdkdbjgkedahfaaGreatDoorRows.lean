/-
  NARROWER THAN 'FOR EVERY INPUT', by the rows' own cells (each row's printed sentence says how): PickRows: laid · PickKnown: laid.
  DERIVED. THE GIVEN ROWS OF THIS SEAT. 2 by the template 'for every input the law returns true; each argument reads behind the call as it read before'; 0 by the template 'total and deterministic' (their statements: YtdkdbjgkedahfaaGreatDoorTotals.lean).
  GIVEN WITH THE SEED: the statements are not yours to turn. If you find one false, say at which input.
  Laid BY PROGRAM, IN A SANDBOX (cutbox-rows.mjs): the forced cells as the released guide's own fill.sh prints them over the translation effb2f34e2cf37c2… (all of the seat's roots in one cut). By AI agents, Wed Nov 11 2026. No macro, syntax, notation, axiom, sorry.
-/
import Derived.Test.YtdkdbjgkedahfaaGreatDoorChecked
import GoSem.Claim
import GoSem.ClaimJoined
import GoSem.ClaimMapViews
import Derived.JoinedTies
import Derived.KernelRfl
namespace Go.Proofs.YtdkdbjgkedahfaaGreatDoor
/- THE CELL 'sum', in the pinned program and in every row, IS THE sha256 OF THE DUMP (.gsa) THAT YtdkdbjgkedahfaaGreatDoorProg.lean LOADS. Nothing in Lean hashes anything: it is a label: what it is worth is what the hold of that sum in a sandbox is worth. -/
noncomputable def Tryz.pinned : Pinned := { name := "ytdkdbjgkedahfaagreatdoor", sum := "effb2f34e2cf37c278cdab9411b57630bd11d567f32531da15937b0d7885b7d3", checked := Tryz.checked }
namespace Rows
def none {H : Type} : Left H := { results := [], args := [] }

/- WHAT THE LISTED PACKAGE-LEVEL VARIABLES READ AS WHEN THE CALL BEGINS. Each datum BY PROGRAM (the guide's laid-datum.mjs) off the statement by which the dump's own 'gosem.cut.vars' lays the variable. In a bare row this is a premise. The card (YtdkdbjgkedahfaaGreatDoorCards.lean) ties it to the program's text. -/
def laid_fenestra_fenestraref20_counts {H : Type} : DataW H := .agg [.lit (.int .i64 22), .lit (.int .i64 23), .lit (.int .i64 24), .lit (.int .i64 25), .lit (.int .i64 28), .lit (.int .i64 29), .lit (.int .i64 30), .lit (.int .i64 31), .lit (.int .i64 32), .lit (.int .i64 34)]
def laid_fenestra_fenestraref20_bare {H : Type} : DataW H := .agg [.lit (.int .i64 2), .lit (.int .i64 3), .lit (.int .i64 4), .lit (.int .i64 5), .lit (.int .i64 6), .lit (.int .i64 8), .lit (.int .i64 9), .lit (.int .i64 10), .lit (.int .i64 11), .lit (.int .i64 12), .lit (.int .i64 13), .lit (.int .i64 5), .lit (.int .i64 6), .lit (.int .i64 16)]
def laid_fenestra_fenestraref20_decs {H : Type} : DataW H := .agg [.lit (.int .i64 6), .lit (.int .i64 7), .lit (.int .i64 25), .lit (.int .i64 47), .lit (.int .i64 1047), .lit (.int .i64 1048), .lit (.int .i64 1049), .lit (.int .i64 1), .lit (.int .i64 5), .lit (.int .i64 1000), .lit (.int .i64 1006), .lit (.int .i64 2004), .lit (.int .i64 3)]
def laid_math_bits_deBruijn32tab {H : Type} : DataW H := .agg [.lit (.int .u8 0), .lit (.int .u8 1), .lit (.int .u8 28), .lit (.int .u8 2), .lit (.int .u8 29), .lit (.int .u8 14), .lit (.int .u8 24), .lit (.int .u8 3), .lit (.int .u8 30), .lit (.int .u8 22), .lit (.int .u8 20), .lit (.int .u8 15), .lit (.int .u8 25), .lit (.int .u8 17), .lit (.int .u8 4), .lit (.int .u8 8), .lit (.int .u8 31), .lit (.int .u8 27), .lit (.int .u8 13), .lit (.int .u8 23), .lit (.int .u8 21), .lit (.int .u8 19), .lit (.int .u8 16), .lit (.int .u8 7), .lit (.int .u8 26), .lit (.int .u8 12), .lit (.int .u8 18), .lit (.int .u8 6), .lit (.int .u8 11), .lit (.int .u8 5), .lit (.int .u8 10), .lit (.int .u8 9)]
def laid_math_bits_deBruijn64tab {H : Type} : DataW H := .agg [.lit (.int .u8 0), .lit (.int .u8 1), .lit (.int .u8 56), .lit (.int .u8 2), .lit (.int .u8 57), .lit (.int .u8 49), .lit (.int .u8 28), .lit (.int .u8 3), .lit (.int .u8 61), .lit (.int .u8 58), .lit (.int .u8 42), .lit (.int .u8 50), .lit (.int .u8 38), .lit (.int .u8 29), .lit (.int .u8 17), .lit (.int .u8 4), .lit (.int .u8 62), .lit (.int .u8 47), .lit (.int .u8 59), .lit (.int .u8 36), .lit (.int .u8 45), .lit (.int .u8 43), .lit (.int .u8 51), .lit (.int .u8 22), .lit (.int .u8 53), .lit (.int .u8 39), .lit (.int .u8 33), .lit (.int .u8 30), .lit (.int .u8 24), .lit (.int .u8 18), .lit (.int .u8 12), .lit (.int .u8 5), .lit (.int .u8 63), .lit (.int .u8 55), .lit (.int .u8 48), .lit (.int .u8 27), .lit (.int .u8 60), .lit (.int .u8 41), .lit (.int .u8 37), .lit (.int .u8 16), .lit (.int .u8 46), .lit (.int .u8 35), .lit (.int .u8 44), .lit (.int .u8 21), .lit (.int .u8 52), .lit (.int .u8 32), .lit (.int .u8 23), .lit (.int .u8 11), .lit (.int .u8 54), .lit (.int .u8 26), .lit (.int .u8 40), .lit (.int .u8 15), .lit (.int .u8 34), .lit (.int .u8 20), .lit (.int .u8 31), .lit (.int .u8 10), .lit (.int .u8 25), .lit (.int .u8 14), .lit (.int .u8 19), .lit (.int .u8 9), .lit (.int .u8 13), .lit (.int .u8 8), .lit (.int .u8 7), .lit (.int .u8 6)]
def laid_internal_strconv_uint64pow10 {H : Type} : DataW H := .agg [.lit (.int .u64 1), .lit (.int .u64 10), .lit (.int .u64 100), .lit (.int .u64 1000), .lit (.int .u64 10000), .lit (.int .u64 100000), .lit (.int .u64 1000000), .lit (.int .u64 10000000), .lit (.int .u64 100000000), .lit (.int .u64 1000000000), .lit (.int .u64 10000000000), .lit (.int .u64 100000000000), .lit (.int .u64 1000000000000), .lit (.int .u64 10000000000000), .lit (.int .u64 100000000000000), .lit (.int .u64 1000000000000000), .lit (.int .u64 10000000000000000), .lit (.int .u64 100000000000000000), .lit (.int .u64 1000000000000000000), .lit (.int .u64 10000000000000000000)]
def laid_fenestra_color_named {H : Type} : DataW H := .agg [.lit (.int .i64 0), .lit (.int .i64 13434880), .lit (.int .i64 52480), .lit (.int .i64 13487360), .lit (.int .i64 238), .lit (.int .i64 13435085), .lit (.int .i64 52685), .lit (.int .i64 15066597), .lit (.int .i64 8355711), .lit (.int .i64 16711680), .lit (.int .i64 65280), .lit (.int .i64 16776960), .lit (.int .i64 6053119), .lit (.int .i64 16711935), .lit (.int .i64 65535), .lit (.int .i64 16777215)]
def laid_fenestra_width_marks {H : Type} : DataW H := .agg [.agg [.lit (.int .i64 768), .lit (.int .i64 879)], .agg [.lit (.int .i64 1155), .lit (.int .i64 1161)], .agg [.lit (.int .i64 1425), .lit (.int .i64 1469)], .agg [.lit (.int .i64 1552), .lit (.int .i64 1562)], .agg [.lit (.int .i64 1611), .lit (.int .i64 1631)], .agg [.lit (.int .i64 6832), .lit (.int .i64 6911)], .agg [.lit (.int .i64 7616), .lit (.int .i64 7679)], .agg [.lit (.int .i64 8203), .lit (.int .i64 8207)], .agg [.lit (.int .i64 8400), .lit (.int .i64 8447)], .agg [.lit (.int .i64 65024), .lit (.int .i64 65039)], .agg [.lit (.int .i64 65056), .lit (.int .i64 65071)]]
def laid_fenestra_width_wides {H : Type} : DataW H := .agg [.agg [.lit (.int .i64 4352), .lit (.int .i64 4447)], .agg [.lit (.int .i64 11904), .lit (.int .i64 12350)], .agg [.lit (.int .i64 12353), .lit (.int .i64 19903)], .agg [.lit (.int .i64 19968), .lit (.int .i64 42191)], .agg [.lit (.int .i64 44032), .lit (.int .i64 55203)], .agg [.lit (.int .i64 63744), .lit (.int .i64 64255)], .agg [.lit (.int .i64 65072), .lit (.int .i64 65135)], .agg [.lit (.int .i64 65280), .lit (.int .i64 65376)], .agg [.lit (.int .i64 65504), .lit (.int .i64 65510)], .agg [.lit (.int .i64 127744), .lit (.int .i64 128591)], .agg [.lit (.int .i64 128640), .lit (.int .i64 128767)], .agg [.lit (.int .i64 129280), .lit (.int .i64 129535)], .agg [.lit (.int .i64 131072), .lit (.int .i64 262141)]]

/-- 'fenestralaw32.PickRows': WHATEVER THE INPUT: true; the input reads as it did. -/
def pickRowsSpec : ChangeSpec := { name := "pickRows", fn := fun _ => fun
  | [d1, d2, d3, d4, d5] => { results := [.lit (.bool true)], args := [d1, d2, d3, d4, d5] }
  | _ => none }
def pickRowsRow : OpenClaim := { program := "ytdkdbjgkedahfaagreatdoor", sum := "effb2f34e2cf37c278cdab9411b57630bd11d567f32531da15937b0d7885b7d3", func := "fenestra/fenestralaw32.PickRows", spec := "pickRows", inPlace := ["internal/abi.NoEscape", "internal/bytealg.MakeNoZero", "internal/bytealg.IndexByteString", "internal/bytealg.IndexString"], unfollowed := true, recurses := true, named := ["fenestra/fenestraref20.bare", "fenestra/fenestraref20.counts", "fenestra/fenestraref20.decs", "fenestra/width.marks", "fenestra/width.wides", "fenestra/color.named", "internal/strconv.uint64pow10", "math/bits.deBruijn32tab", "math/bits.deBruijn64tab", "internal/bytealg.MaxLen"], apart := false, laid := [("fenestra/fenestraref20.counts", laid_fenestra_fenestraref20_counts), ("fenestra/fenestraref20.bare", laid_fenestra_fenestraref20_bare), ("fenestra/fenestraref20.decs", laid_fenestra_fenestraref20_decs), ("math/bits.deBruijn32tab", laid_math_bits_deBruijn32tab), ("math/bits.deBruijn64tab", laid_math_bits_deBruijn64tab), ("internal/strconv.uint64pow10", laid_internal_strconv_uint64pow10), ("fenestra/color.named", laid_fenestra_color_named), ("fenestra/width.marks", laid_fenestra_width_marks), ("fenestra/width.wides", laid_fenestra_width_wides)] }
def PickRowsSaid : Prop := pickRowsRow.holds Tryz.pinned (OpenSpec.ofChange pickRowsSpec)

/-- ITS FALSE NEIGHBOUR: 'it returns false'. Refute it at one input. -/
def pickRowsWrong : ChangeSpec := { name := "pickRows", fn := fun _ => fun
  | [d1, d2, d3, d4, d5] => { results := [.lit (.bool false)], args := [d1, d2, d3, d4, d5] }
  | _ => none }
def PickRowsWrongFalsely : Prop := pickRowsRow.holds Tryz.pinned (OpenSpec.ofChange pickRowsWrong)

/-- 'fenestralaw32.PickKnown': WHATEVER THE INPUT: true; the input reads as it did. -/
def pickKnownSpec : ChangeSpec := { name := "pickKnown", fn := fun _ => fun
  | [] => { results := [.lit (.bool true)], args := [] }
  | _ => none }
def pickKnownRow : OpenClaim := { program := "ytdkdbjgkedahfaagreatdoor", sum := "effb2f34e2cf37c278cdab9411b57630bd11d567f32531da15937b0d7885b7d3", func := "fenestra/fenestralaw32.PickKnown", spec := "pickKnown", inPlace := ["internal/abi.NoEscape", "internal/bytealg.IndexByteString", "internal/bytealg.IndexString", "internal/bytealg.MakeNoZero"], unfollowed := true, recurses := true, named := ["fenestra/width.marks", "fenestra/width.wides", "fenestra/color.named", "internal/strconv.uint64pow10", "math/bits.deBruijn32tab", "math/bits.deBruijn64tab", "internal/bytealg.MaxLen"], apart := false, laid := [("math/bits.deBruijn32tab", laid_math_bits_deBruijn32tab), ("math/bits.deBruijn64tab", laid_math_bits_deBruijn64tab), ("internal/strconv.uint64pow10", laid_internal_strconv_uint64pow10), ("fenestra/color.named", laid_fenestra_color_named), ("fenestra/width.marks", laid_fenestra_width_marks), ("fenestra/width.wides", laid_fenestra_width_wides)] }
def PickKnownSaid : Prop := pickKnownRow.holds Tryz.pinned (OpenSpec.ofChange pickKnownSpec)

/-- ITS FALSE NEIGHBOUR: 'it returns false'. Refute it at one input. -/
def pickKnownWrong : ChangeSpec := { name := "pickKnown", fn := fun _ => fun
  | [] => { results := [.lit (.bool false)], args := [] }
  | _ => none }
def PickKnownWrongFalsely : Prop := pickKnownRow.holds Tryz.pinned (OpenSpec.ofChange pickKnownWrong)

/- THE SECOND FORM. 'bulk': how many values and letters a reading holds, each counted each time it is reached (what is shared counts as often as it is met; a slice's spare places count too). A statement '..UptoSaid' is the law's where the arguments, and the package variables that the reading takes, are together of bulk at most 1048576: NARROWER than '..Said'. Prove '..Said' where nothing that the law and all that it calls make is longer than what came in: it says more and counts as full. Else prove '..UptoSaid'. A law counts once. -/
mutual
def uptoBulk {H : Type} : DataW H → Nat
  | .lit (.string bytes) => bytes.length + 1
  | .lit _ => 1
  | .nil => 1
  | .ptr d => uptoBulk d + 1
  | .slice elems spare => uptoBulkAll elems + uptoBulkAll spare + 1
  | .agg parts => uptoBulkAll parts + 1
  | .iface _ d => uptoBulk d + 1
  | .map entries => uptoBulkEntries entries + 1
  | .held _ => 1
def uptoBulkAll {H : Type} : List (DataW H) → Nat
  | [] => 0
  | d :: r => uptoBulk d + uptoBulkAll r
def uptoBulkEntries {H : Type} : List (Lit × DataW H) → Nat
  | [] => 0
  | x :: r => uptoBulkEntry x + uptoBulkEntries r
def uptoBulkEntry {H : Type} : Lit × DataW H → Nat
  | (.string bytes, d) => bytes.length + uptoBulk d + 1
  | (_, d) => uptoBulk d + 1
 end
def uptoSmall : (H : Type) → List (DataW H) → Bool := fun _ ds => decide (uptoBulkAll ds ≤ 1048576)
def OpenSpec.upto (s : _root_.Go.ChangeSpec) : _root_.Go.OpenSpec := { _root_.Go.OpenSpec.ofChange s with cond := some uptoSmall }

/-- 'fenestralaw32.PickRows', WHERE WHAT IT READS IS OF BULK AT MOST 1048576: true; the input reads as it did. -/
def pickRowsUptoRow : OpenClaim := { program := "ytdkdbjgkedahfaagreatdoor", sum := "effb2f34e2cf37c278cdab9411b57630bd11d567f32531da15937b0d7885b7d3", func := "fenestra/fenestralaw32.PickRows", spec := "pickRows", inPlace := ["internal/abi.NoEscape", "internal/bytealg.MakeNoZero", "internal/bytealg.IndexByteString", "internal/bytealg.IndexString"], unfollowed := true, recurses := true, named := ["fenestra/fenestraref20.bare", "fenestra/fenestraref20.counts", "fenestra/fenestraref20.decs", "fenestra/width.marks", "fenestra/width.wides", "fenestra/color.named", "internal/strconv.uint64pow10", "math/bits.deBruijn32tab", "math/bits.deBruijn64tab", "internal/bytealg.MaxLen"], apart := false, laid := [("fenestra/fenestraref20.counts", laid_fenestra_fenestraref20_counts), ("fenestra/fenestraref20.bare", laid_fenestra_fenestraref20_bare), ("fenestra/fenestraref20.decs", laid_fenestra_fenestraref20_decs), ("math/bits.deBruijn32tab", laid_math_bits_deBruijn32tab), ("math/bits.deBruijn64tab", laid_math_bits_deBruijn64tab), ("internal/strconv.uint64pow10", laid_internal_strconv_uint64pow10), ("fenestra/color.named", laid_fenestra_color_named), ("fenestra/width.marks", laid_fenestra_width_marks), ("fenestra/width.wides", laid_fenestra_width_wides)], narrowed := true }
def PickRowsUptoSaid : Prop := pickRowsUptoRow.holds Tryz.pinned (OpenSpec.upto pickRowsSpec)

/-- 'fenestralaw32.PickKnown', WHERE WHAT IT READS IS OF BULK AT MOST 1048576: true; the input reads as it did. -/
def pickKnownUptoRow : OpenClaim := { program := "ytdkdbjgkedahfaagreatdoor", sum := "effb2f34e2cf37c278cdab9411b57630bd11d567f32531da15937b0d7885b7d3", func := "fenestra/fenestralaw32.PickKnown", spec := "pickKnown", inPlace := ["internal/abi.NoEscape", "internal/bytealg.IndexByteString", "internal/bytealg.IndexString", "internal/bytealg.MakeNoZero"], unfollowed := true, recurses := true, named := ["fenestra/width.marks", "fenestra/width.wides", "fenestra/color.named", "internal/strconv.uint64pow10", "math/bits.deBruijn32tab", "math/bits.deBruijn64tab", "internal/bytealg.MaxLen"], apart := false, laid := [("math/bits.deBruijn32tab", laid_math_bits_deBruijn32tab), ("math/bits.deBruijn64tab", laid_math_bits_deBruijn64tab), ("internal/strconv.uint64pow10", laid_internal_strconv_uint64pow10), ("fenestra/color.named", laid_fenestra_color_named), ("fenestra/width.marks", laid_fenestra_width_marks), ("fenestra/width.wides", laid_fenestra_width_wides)], narrowed := true }
def PickKnownUptoSaid : Prop := pickKnownUptoRow.holds Tryz.pinned (OpenSpec.upto pickKnownSpec)

end Rows
end Go.Proofs.YtdkdbjgkedahfaaGreatDoor
