/- What functions of the program come to: contracts, each by the tree of its ways. -/
import Derived.Test.YtdmdghooamchfaaDoorSxC5
namespace Go.Proofs.YtdmdghooamchfaaDoor
set_option linter.all false
open Go Go.Sx
set_option maxRecDepth 100000
set_option linter.unusedVariables false
set_option linter.unusedSimpArgs false
def U_textk : List (FuncId × FnC) := L0
theorem U_textk_ok {G : Nat → Option Obj} (hst : StartOk Tryd.prog G gl H0 n0) : ConsOk Tryd.prog G gl U_textk := .nil
def textk_s : Go.Sx.Spec := tabS [([.int .i64 (1), .int .i64 (9)], [.str [114, 103, 98, 58, 102, 102, 47, 48, 48, 47, 48, 48], .int .i64 (0)]), ([.int .i64 (0), .int .i64 (0)], [.str [], .int .i64 (2)]), ([.int .i64 (2), .int .i64 (-1)], [.str [], .int .i64 (130)])]
theorem textk_r0 : runK (cx U_textk P_near0) 60 12 [.a [3, 3]] [.s 9, .s 3] H0 n0 [.int .i64 (1), .int .i64 (9)] = some [.str [114, 103, 98, 58, 102, 102, 47, 48, 48, 47, 48, 48], .int .i64 (0)] := by kernel_rfl
theorem textk_r1 : runK (cx U_textk P_near0) 60 12 [.a [3, 3]] [.s 9, .s 3] H0 n0 [.int .i64 (0), .int .i64 (0)] = some [.str [], .int .i64 (2)] := by kernel_rfl
theorem textk_r2 : runK (cx U_textk P_near0) 60 12 [.a [3, 3]] [.s 9, .s 3] H0 n0 [.int .i64 (2), .int .i64 (-1)] = some [.str [], .int .i64 (130)] := by kernel_rfl
theorem textk_c {G : Nat → Option Obj} (hst : StartOk Tryd.prog G gl H0 n0) : ConOk Tryd.prog G 12 [.a [3, 3]] textk_s [.s 9, .s 3] := con_of_rows (cxg (U_textk_ok hst) (P_near0_ok hst)) hst ⟨Tryd.f12, _, Tryd.func12, rfl⟩ (.cons textk_r0 (.cons textk_r1 (.cons textk_r2 .nil)))
end Go.Proofs.YtdmdghooamchfaaDoor
