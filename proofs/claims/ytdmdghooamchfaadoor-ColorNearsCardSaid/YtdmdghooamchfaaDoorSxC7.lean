/- What functions of the program come to: contracts, each by the tree of its ways. -/
import Derived.Test.YtdmdghooamchfaaDoorSxC5
namespace Go.Proofs.YtdmdghooamchfaaDoor
set_option linter.all false
open Go Go.Sx
set_option maxRecDepth 100000
set_option linter.unusedVariables false
set_option linter.unusedSimpArgs false
def U_parsek : List (FuncId × FnC) := L0
theorem U_parsek_ok {G : Nat → Option Obj} (hst : StartOk Tryd.prog G gl H0 n0) : ConsOk Tryd.prog G gl U_parsek := .nil
def parsek_s : Go.Sx.Spec := tabS [([.str [114, 103, 98, 58, 65, 98, 47, 48, 49, 47, 102, 70]], [.int .i64 (2), .int .i64 (11207167), .int .i64 (0)]), ([.str [114, 103, 98, 58, 97, 98, 47, 48, 49]], [.int .i64 (0), .int .i64 (0), .int .i64 (6)]), ([.str [114, 103, 98, 58, 97, 98, 47, 48, 49, 47, 102]], [.int .i64 (0), .int .i64 (0), .int .i64 (6)])]
theorem parsek_r0 : runK (cx U_parsek P_near0) 60 20 [.s 9] [.a [3, 3], .s 3] H0 n0 [.str [114, 103, 98, 58, 65, 98, 47, 48, 49, 47, 102, 70]] = some [.int .i64 (2), .int .i64 (11207167), .int .i64 (0)] := by kernel_rfl
theorem parsek_r1 : runK (cx U_parsek P_near0) 60 20 [.s 9] [.a [3, 3], .s 3] H0 n0 [.str [114, 103, 98, 58, 97, 98, 47, 48, 49]] = some [.int .i64 (0), .int .i64 (0), .int .i64 (6)] := by kernel_rfl
theorem parsek_r2 : runK (cx U_parsek P_near0) 60 20 [.s 9] [.a [3, 3], .s 3] H0 n0 [.str [114, 103, 98, 58, 97, 98, 47, 48, 49, 47, 102]] = some [.int .i64 (0), .int .i64 (0), .int .i64 (6)] := by kernel_rfl
theorem parsek_c {G : Nat → Option Obj} (hst : StartOk Tryd.prog G gl H0 n0) : ConOk Tryd.prog G 20 [.s 9] parsek_s [.a [3, 3], .s 3] := con_of_rows (cxg (U_parsek_ok hst) (P_near0_ok hst)) hst ⟨Tryd.f20, _, Tryd.func20, rfl⟩ (.cons parsek_r0 (.cons parsek_r1 (.cons parsek_r2 .nil)))
end Go.Proofs.YtdmdghooamchfaaDoor
