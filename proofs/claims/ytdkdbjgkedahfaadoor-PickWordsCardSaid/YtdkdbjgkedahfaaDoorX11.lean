/- The law PickWords: for every input the call returns true, and the arguments read behind it as they read before. No condition. -/
import Derived.Test.YtdkdbjgkedahfaaDoorX10
import Derived.Test.YtdkdbjgkedahfaaDoorCards
import Derived.Test.YtdkdbjgkedahfaaDoorTie
import Derived.WalkKit
import Derived.ProofKit
import Derived.OpenShut
import Derived.Below
import Derived.Carry
import Derived.Lib.SmallJoins
import Derived.Deep.DeepHandedRow
import Derived.Lib.LaidTab
import Derived.MakeChecks
namespace Go.Proofs.YtdkdbjgkedahfaaDoor
set_option linter.all false
open Go Go.Sx
set_option maxRecDepth 100000
set_option linter.unusedVariables false
set_option linter.unusedSimpArgs false
noncomputable def U_works:List (FuncId × FnC):=(61,conF Tryd.prog [.s 12] pck_s [.s 3])::L0
theorem U_works_ok {G:Nat→Option Obj} (hst:StartOk Tryd.prog G gl H0 n0):ConsOk Tryd.prog G gl U_works:=(.cons (pck_c hst) .nil)
def works_s:List U→Option (Nat × List U)
 | []=>some (0,[.bool (true)])
 | _=>none
theorem works_s_e :works_s []=some (0,[.bool (true)]):=rfl
def works_t:Tr:=.dt 22 (.mk 12) [.int .i64 (97),.int .i64 (0),.int .i64 (0),.int .i64 (0),.int .i64 (0),.int .i64 (0),.int .i64 (0),.int .i64 (0),.int .i64 (0),.int .i64 (0),.int .i64 (0),.int .i64 (0),.int .i64 (98),.int .i64 (0),.int .i64 (0),.int .i64 (0),.int .i64 (0),.int .i64 (0),.int .i64 (0),.int .i64 (0),.int .i64 (0),.int .i64 (0),.int .i64 (0),.int .i64 (0),.int .i64 (32),.int .i64 (0),.int .i64 (0),.int .i64 (0),.int .i64 (0),.int .i64 (0),.int .i64 (0),.int .i64 (0),.int .i64 (0),.int .i64 (0),.int .i64 (0),.int .i64 (0),.int .i64 (99),.int .i64 (0),.int .i64 (0),.int .i64 (0),.int .i64 (0),.int .i64 (0),.int .i64 (0),.int .i64 (0),.int .i64 (0),.int .i64 (0),.int .i64 (0),.int .i64 (0),.int .i64 (100),.int .i64 (0),.int .i64 (0),.int .i64 (0),.int .i64 (0),.int .i64 (0),.int .i64 (0),.int .i64 (0),.int .i64 (0),.int .i64 (0),.int .i64 (0),.int .i64 (0),.int .i64 (32),.int .i64 (0),.int .i64 (0),.int .i64 (0),.int .i64 (0),.int .i64 (0),.int .i64 (0),.int .i64 (0),.int .i64 (0),.int .i64 (0),.int .i64 (0),.int .i64 (0)] <| .dt 22 (.mk 12) [.int .i64 (101),.int .i64 (0),.int .i64 (0),.int .i64 (0),.int .i64 (0),.int .i64 (0),.int .i64 (0),.int .i64 (0),.int .i64 (0),.int .i64 (0),.int .i64 (0),.int .i64 (0),.int .i64 (102),.int .i64 (0),.int .i64 (0),.int .i64 (0),.int .i64 (0),.int .i64 (0),.int .i64 (0),.int .i64 (0),.int .i64 (0),.int .i64 (0),.int .i64 (0),.int .i64 (0),.int .i64 (32),.int .i64 (0),.int .i64 (0),.int .i64 (0),.int .i64 (0),.int .i64 (0),.int .i64 (0),.int .i64 (0),.int .i64 (0),.int .i64 (0),.int .i64 (0),.int .i64 (0),.int .i64 (32),.int .i64 (0),.int .i64 (0),.int .i64 (0),.int .i64 (0),.int .i64 (0),.int .i64 (0),.int .i64 (0),.int .i64 (0),.int .i64 (0),.int .i64 (0),.int .i64 (0),.int .i64 (32),.int .i64 (0),.int .i64 (0),.int .i64 (0),.int .i64 (0),.int .i64 (0),.int .i64 (0),.int .i64 (0),.int .i64 (0),.int .i64 (0),.int .i64 (0),.int .i64 (0),.int .i64 (32),.int .i64 (0),.int .i64 (0),.int .i64 (0),.int .i64 (0),.int .i64 (0),.int .i64 (0),.int .i64 (0),.int .i64 (0),.int .i64 (0),.int .i64 (0),.int .i64 (0)] <| .dt 22 (.mk 12) [.int .i64 (120),.int .i64 (0),.int .i64 (0),.int .i64 (0),.int .i64 (0),.int .i64 (0),.int .i64 (0),.int .i64 (0),.int .i64 (0),.int .i64 (0),.int .i64 (0),.int .i64 (0),.int .i64 (46),.int .i64 (0),.int .i64 (0),.int .i64 (0),.int .i64 (0),.int .i64 (0),.int .i64 (0),.int .i64 (0),.int .i64 (0),.int .i64 (0),.int .i64 (0),.int .i64 (0),.int .i64 (121),.int .i64 (0),.int .i64 (0),.int .i64 (0),.int .i64 (0),.int .i64 (0),.int .i64 (0),.int .i64 (0),.int .i64 (0),.int .i64 (0),.int .i64 (0),.int .i64 (0),.int .i64 (32),.int .i64 (0),.int .i64 (0),.int .i64 (0),.int .i64 (0),.int .i64 (0),.int .i64 (0),.int .i64 (0),.int .i64 (0),.int .i64 (0),.int .i64 (0),.int .i64 (0),.int .i64 (32),.int .i64 (0),.int .i64 (0),.int .i64 (0),.int .i64 (0),.int .i64 (0),.int .i64 (0),.int .i64 (0),.int .i64 (0),.int .i64 (0),.int .i64 (0),.int .i64 (0),.int .i64 (32),.int .i64 (0),.int .i64 (0),.int .i64 (0),.int .i64 (0),.int .i64 (0),.int .i64 (0),.int .i64 (0),.int .i64 (0),.int .i64 (0),.int .i64 (0),.int .i64 (0)] <| .dt 12 (.mk 2) [h 0 22,.bool true,h 1 22,.bool false,h 2 22,.bool false] <| .fn pck_s [h 3 12] 1 <| .lt 8 (.bin .neq) [h 4 3,.int .i64 (0)] <| .br 5 (.no) (.dt 22 (.mk 12) [.int .i64 (97),.int .i64 (0),.int .i64 (0),.int .i64 (0),.int .i64 (0),.int .i64 (0),.int .i64 (0),.int .i64 (0),.int .i64 (0),.int .i64 (0),.int .i64 (0),.int .i64 (0),.int .i64 (98),.int .i64 (0),.int .i64 (0),.int .i64 (0),.int .i64 (0),.int .i64 (0),.int .i64 (0),.int .i64 (0),.int .i64 (0),.int .i64 (0),.int .i64 (0),.int .i64 (0),.int .i64 (32),.int .i64 (0),.int .i64 (0),.int .i64 (0),.int .i64 (0),.int .i64 (0),.int .i64 (0),.int .i64 (0),.int .i64 (0),.int .i64 (0),.int .i64 (0),.int .i64 (0),.int .i64 (99),.int .i64 (0),.int .i64 (0),.int .i64 (0),.int .i64 (0),.int .i64 (0),.int .i64 (0),.int .i64 (0),.int .i64 (0),.int .i64 (0),.int .i64 (0),.int .i64 (0),.int .i64 (100),.int .i64 (0),.int .i64 (0),.int .i64 (0),.int .i64 (0),.int .i64 (0),.int .i64 (0),.int .i64 (0),.int .i64 (0),.int .i64 (0),.int .i64 (0),.int .i64 (0),.int .i64 (32),.int .i64 (0),.int .i64 (0),.int .i64 (0),.int .i64 (0),.int .i64 (0),.int .i64 (0),.int .i64 (0),.int .i64 (0),.int .i64 (0),.int .i64 (0),.int .i64 (0)] <| .dt 22 (.mk 12) [.int .i64 (101),.int .i64 (0),.int .i64 (0),.int .i64 (0),.int .i64 (0),.int .i64 (0),.int .i64 (0),.int .i64 (0),.int .i64 (0),.int .i64 (0),.int .i64 (0),.int .i64 (0),.int .i64 (102),.int .i64 (0),.int .i64 (0),.int .i64 (0),.int .i64 (0),.int .i64 (0),.int .i64 (0),.int .i64 (0),.int .i64 (0),.int .i64 (0),.int .i64 (0),.int .i64 (0),.int .i64 (32),.int .i64 (0),.int .i64 (0),.int .i64 (0),.int .i64 (0),.int .i64 (0),.int .i64 (0),.int .i64 (0),.int .i64 (0),.int .i64 (0),.int .i64 (0),.int .i64 (0),.int .i64 (32),.int .i64 (0),.int .i64 (0),.int .i64 (0),.int .i64 (0),.int .i64 (0),.int .i64 (0),.int .i64 (0),.int .i64 (0),.int .i64 (0),.int .i64 (0),.int .i64 (0),.int .i64 (32),.int .i64 (0),.int .i64 (0),.int .i64 (0),.int .i64 (0),.int .i64 (0),.int .i64 (0),.int .i64 (0),.int .i64 (0),.int .i64 (0),.int .i64 (0),.int .i64 (0),.int .i64 (32),.int .i64 (0),.int .i64 (0),.int .i64 (0),.int .i64 (0),.int .i64 (0),.int .i64 (0),.int .i64 (0),.int .i64 (0),.int .i64 (0),.int .i64 (0),.int .i64 (0)] <| .dt 22 (.mk 12) [.int .i64 (120),.int .i64 (0),.int .i64 (0),.int .i64 (0),.int .i64 (0),.int .i64 (0),.int .i64 (0),.int .i64 (0),.int .i64 (0),.int .i64 (0),.int .i64 (0),.int .i64 (0),.int .i64 (46),.int .i64 (0),.int .i64 (0),.int .i64 (0),.int .i64 (0),.int .i64 (0),.int .i64 (0),.int .i64 (0),.int .i64 (0),.int .i64 (0),.int .i64 (0),.int .i64 (0),.int .i64 (121),.int .i64 (0),.int .i64 (0),.int .i64 (0),.int .i64 (0),.int .i64 (0),.int .i64 (0),.int .i64 (0),.int .i64 (0),.int .i64 (0),.int .i64 (0),.int .i64 (0),.int .i64 (32),.int .i64 (0),.int .i64 (0),.int .i64 (0),.int .i64 (0),.int .i64 (0),.int .i64 (0),.int .i64 (0),.int .i64 (0),.int .i64 (0),.int .i64 (0),.int .i64 (0),.int .i64 (32),.int .i64 (0),.int .i64 (0),.int .i64 (0),.int .i64 (0),.int .i64 (0),.int .i64 (0),.int .i64 (0),.int .i64 (0),.int .i64 (0),.int .i64 (0),.int .i64 (0),.int .i64 (32),.int .i64 (0),.int .i64 (0),.int .i64 (0),.int .i64 (0),.int .i64 (0),.int .i64 (0),.int .i64 (0),.int .i64 (0),.int .i64 (0),.int .i64 (0),.int .i64 (0)] <| .dt 12 (.mk 2) [h 6 22,.bool true,h 7 22,.bool false,h 8 22,.bool false] <| .fn pck_s [h 9 12] 1 <| .lt 8 (.bin .neq) [h 10 3,.int .i64 (0)] <| .br 11 (.no) (.dt 22 (.mk 12) [.int .i64 (97),.int .i64 (0),.int .i64 (0),.int .i64 (0),.int .i64 (0),.int .i64 (0),.int .i64 (0),.int .i64 (0),.int .i64 (0),.int .i64 (0),.int .i64 (0),.int .i64 (0),.int .i64 (98),.int .i64 (0),.int .i64 (0),.int .i64 (0),.int .i64 (0),.int .i64 (0),.int .i64 (0),.int .i64 (0),.int .i64 (0),.int .i64 (0),.int .i64 (0),.int .i64 (0),.int .i64 (32),.int .i64 (0),.int .i64 (0),.int .i64 (0),.int .i64 (0),.int .i64 (0),.int .i64 (0),.int .i64 (0),.int .i64 (0),.int .i64 (0),.int .i64 (0),.int .i64 (0),.int .i64 (99),.int .i64 (0),.int .i64 (0),.int .i64 (0),.int .i64 (0),.int .i64 (0),.int .i64 (0),.int .i64 (0),.int .i64 (0),.int .i64 (0),.int .i64 (0),.int .i64 (0),.int .i64 (100),.int .i64 (0),.int .i64 (0),.int .i64 (0),.int .i64 (0),.int .i64 (0),.int .i64 (0),.int .i64 (0),.int .i64 (0),.int .i64 (0),.int .i64 (0),.int .i64 (0),.int .i64 (32),.int .i64 (0),.int .i64 (0),.int .i64 (0),.int .i64 (0),.int .i64 (0),.int .i64 (0),.int .i64 (0),.int .i64 (0),.int .i64 (0),.int .i64 (0),.int .i64 (0)] <| .dt 22 (.mk 12) [.int .i64 (101),.int .i64 (0),.int .i64 (0),.int .i64 (0),.int .i64 (0),.int .i64 (0),.int .i64 (0),.int .i64 (0),.int .i64 (0),.int .i64 (0),.int .i64 (0),.int .i64 (0),.int .i64 (102),.int .i64 (0),.int .i64 (0),.int .i64 (0),.int .i64 (0),.int .i64 (0),.int .i64 (0),.int .i64 (0),.int .i64 (0),.int .i64 (0),.int .i64 (0),.int .i64 (0),.int .i64 (32),.int .i64 (0),.int .i64 (0),.int .i64 (0),.int .i64 (0),.int .i64 (0),.int .i64 (0),.int .i64 (0),.int .i64 (0),.int .i64 (0),.int .i64 (0),.int .i64 (0),.int .i64 (32),.int .i64 (0),.int .i64 (0),.int .i64 (0),.int .i64 (0),.int .i64 (0),.int .i64 (0),.int .i64 (0),.int .i64 (0),.int .i64 (0),.int .i64 (0),.int .i64 (0),.int .i64 (32),.int .i64 (0),.int .i64 (0),.int .i64 (0),.int .i64 (0),.int .i64 (0),.int .i64 (0),.int .i64 (0),.int .i64 (0),.int .i64 (0),.int .i64 (0),.int .i64 (0),.int .i64 (32),.int .i64 (0),.int .i64 (0),.int .i64 (0),.int .i64 (0),.int .i64 (0),.int .i64 (0),.int .i64 (0),.int .i64 (0),.int .i64 (0),.int .i64 (0),.int .i64 (0)] <| .dt 22 (.mk 12) [.int .i64 (120),.int .i64 (0),.int .i64 (0),.int .i64 (0),.int .i64 (0),.int .i64 (0),.int .i64 (0),.int .i64 (0),.int .i64 (0),.int .i64 (0),.int .i64 (0),.int .i64 (0),.int .i64 (46),.int .i64 (0),.int .i64 (0),.int .i64 (0),.int .i64 (0),.int .i64 (0),.int .i64 (0),.int .i64 (0),.int .i64 (0),.int .i64 (0),.int .i64 (0),.int .i64 (0),.int .i64 (121),.int .i64 (0),.int .i64 (0),.int .i64 (0),.int .i64 (0),.int .i64 (0),.int .i64 (0),.int .i64 (0),.int .i64 (0),.int .i64 (0),.int .i64 (0),.int .i64 (0),.int .i64 (32),.int .i64 (0),.int .i64 (0),.int .i64 (0),.int .i64 (0),.int .i64 (0),.int .i64 (0),.int .i64 (0),.int .i64 (0),.int .i64 (0),.int .i64 (0),.int .i64 (0),.int .i64 (32),.int .i64 (0),.int .i64 (0),.int .i64 (0),.int .i64 (0),.int .i64 (0),.int .i64 (0),.int .i64 (0),.int .i64 (0),.int .i64 (0),.int .i64 (0),.int .i64 (0),.int .i64 (32),.int .i64 (0),.int .i64 (0),.int .i64 (0),.int .i64 (0),.int .i64 (0),.int .i64 (0),.int .i64 (0),.int .i64 (0),.int .i64 (0),.int .i64 (0),.int .i64 (0)] <| .dt 12 (.mk 2) [h 12 22,.bool true,h 13 22,.bool false,h 14 22,.bool false] <| .fn pck_s [h 15 12] 1 <| .lt 8 (.bin .neq) [h 16 3,.int .i64 (0)] <| .br 17 (.no) (.dt 22 (.mk 12) [.int .i64 (97),.int .i64 (0),.int .i64 (0),.int .i64 (0),.int .i64 (0),.int .i64 (0),.int .i64 (0),.int .i64 (0),.int .i64 (0),.int .i64 (0),.int .i64 (0),.int .i64 (0),.int .i64 (98),.int .i64 (0),.int .i64 (0),.int .i64 (0),.int .i64 (0),.int .i64 (0),.int .i64 (0),.int .i64 (0),.int .i64 (0),.int .i64 (0),.int .i64 (0),.int .i64 (0),.int .i64 (32),.int .i64 (0),.int .i64 (0),.int .i64 (0),.int .i64 (0),.int .i64 (0),.int .i64 (0),.int .i64 (0),.int .i64 (0),.int .i64 (0),.int .i64 (0),.int .i64 (0),.int .i64 (99),.int .i64 (0),.int .i64 (0),.int .i64 (0),.int .i64 (0),.int .i64 (0),.int .i64 (0),.int .i64 (0),.int .i64 (0),.int .i64 (0),.int .i64 (0),.int .i64 (0),.int .i64 (100),.int .i64 (0),.int .i64 (0),.int .i64 (0),.int .i64 (0),.int .i64 (0),.int .i64 (0),.int .i64 (0),.int .i64 (0),.int .i64 (0),.int .i64 (0),.int .i64 (0),.int .i64 (32),.int .i64 (0),.int .i64 (0),.int .i64 (0),.int .i64 (0),.int .i64 (0),.int .i64 (0),.int .i64 (0),.int .i64 (0),.int .i64 (0),.int .i64 (0),.int .i64 (0)] <| .dt 22 (.mk 12) [.int .i64 (101),.int .i64 (0),.int .i64 (0),.int .i64 (0),.int .i64 (0),.int .i64 (0),.int .i64 (0),.int .i64 (0),.int .i64 (0),.int .i64 (0),.int .i64 (0),.int .i64 (0),.int .i64 (102),.int .i64 (0),.int .i64 (0),.int .i64 (0),.int .i64 (0),.int .i64 (0),.int .i64 (0),.int .i64 (0),.int .i64 (0),.int .i64 (0),.int .i64 (0),.int .i64 (0),.int .i64 (32),.int .i64 (0),.int .i64 (0),.int .i64 (0),.int .i64 (0),.int .i64 (0),.int .i64 (0),.int .i64 (0),.int .i64 (0),.int .i64 (0),.int .i64 (0),.int .i64 (0),.int .i64 (32),.int .i64 (0),.int .i64 (0),.int .i64 (0),.int .i64 (0),.int .i64 (0),.int .i64 (0),.int .i64 (0),.int .i64 (0),.int .i64 (0),.int .i64 (0),.int .i64 (0),.int .i64 (32),.int .i64 (0),.int .i64 (0),.int .i64 (0),.int .i64 (0),.int .i64 (0),.int .i64 (0),.int .i64 (0),.int .i64 (0),.int .i64 (0),.int .i64 (0),.int .i64 (0),.int .i64 (32),.int .i64 (0),.int .i64 (0),.int .i64 (0),.int .i64 (0),.int .i64 (0),.int .i64 (0),.int .i64 (0),.int .i64 (0),.int .i64 (0),.int .i64 (0),.int .i64 (0)] <| .dt 22 (.mk 12) [.int .i64 (120),.int .i64 (0),.int .i64 (0),.int .i64 (0),.int .i64 (0),.int .i64 (0),.int .i64 (0),.int .i64 (0),.int .i64 (0),.int .i64 (0),.int .i64 (0),.int .i64 (0),.int .i64 (46),.int .i64 (0),.int .i64 (0),.int .i64 (0),.int .i64 (0),.int .i64 (0),.int .i64 (0),.int .i64 (0),.int .i64 (0),.int .i64 (0),.int .i64 (0),.int .i64 (0),.int .i64 (121),.int .i64 (0),.int .i64 (0),.int .i64 (0),.int .i64 (0),.int .i64 (0),.int .i64 (0),.int .i64 (0),.int .i64 (0),.int .i64 (0),.int .i64 (0),.int .i64 (0),.int .i64 (32),.int .i64 (0),.int .i64 (0),.int .i64 (0),.int .i64 (0),.int .i64 (0),.int .i64 (0),.int .i64 (0),.int .i64 (0),.int .i64 (0),.int .i64 (0),.int .i64 (0),.int .i64 (32),.int .i64 (0),.int .i64 (0),.int .i64 (0),.int .i64 (0),.int .i64 (0),.int .i64 (0),.int .i64 (0),.int .i64 (0),.int .i64 (0),.int .i64 (0),.int .i64 (0),.int .i64 (32),.int .i64 (0),.int .i64 (0),.int .i64 (0),.int .i64 (0),.int .i64 (0),.int .i64 (0),.int .i64 (0),.int .i64 (0),.int .i64 (0),.int .i64 (0),.int .i64 (0)] <| .dt 12 (.mk 2) [h 18 22,.bool true,h 19 22,.bool false,h 20 22,.bool false] <| .fn pck_s [h 21 12] 1 <| .lt 8 (.bin .neq) [h 22 3,.int .i64 (0)] <| .br 23 (.no) (.dt 22 (.mk 12) [.int .i64 (97),.int .i64 (0),.int .i64 (0),.int .i64 (0),.int .i64 (0),.int .i64 (0),.int .i64 (0),.int .i64 (0),.int .i64 (0),.int .i64 (0),.int .i64 (0),.int .i64 (0),.int .i64 (98),.int .i64 (0),.int .i64 (0),.int .i64 (0),.int .i64 (0),.int .i64 (0),.int .i64 (0),.int .i64 (0),.int .i64 (0),.int .i64 (0),.int .i64 (0),.int .i64 (0),.int .i64 (32),.int .i64 (0),.int .i64 (0),.int .i64 (0),.int .i64 (0),.int .i64 (0),.int .i64 (0),.int .i64 (0),.int .i64 (0),.int .i64 (0),.int .i64 (0),.int .i64 (0),.int .i64 (99),.int .i64 (0),.int .i64 (0),.int .i64 (0),.int .i64 (0),.int .i64 (0),.int .i64 (0),.int .i64 (0),.int .i64 (0),.int .i64 (0),.int .i64 (0),.int .i64 (0),.int .i64 (100),.int .i64 (0),.int .i64 (0),.int .i64 (0),.int .i64 (0),.int .i64 (0),.int .i64 (0),.int .i64 (0),.int .i64 (0),.int .i64 (0),.int .i64 (0),.int .i64 (0),.int .i64 (32),.int .i64 (0),.int .i64 (0),.int .i64 (0),.int .i64 (0),.int .i64 (0),.int .i64 (0),.int .i64 (0),.int .i64 (0),.int .i64 (0),.int .i64 (0),.int .i64 (0)] <| .dt 22 (.mk 12) [.int .i64 (101),.int .i64 (0),.int .i64 (0),.int .i64 (0),.int .i64 (0),.int .i64 (0),.int .i64 (0),.int .i64 (0),.int .i64 (0),.int .i64 (0),.int .i64 (0),.int .i64 (0),.int .i64 (102),.int .i64 (0),.int .i64 (0),.int .i64 (0),.int .i64 (0),.int .i64 (0),.int .i64 (0),.int .i64 (0),.int .i64 (0),.int .i64 (0),.int .i64 (0),.int .i64 (0),.int .i64 (32),.int .i64 (0),.int .i64 (0),.int .i64 (0),.int .i64 (0),.int .i64 (0),.int .i64 (0),.int .i64 (0),.int .i64 (0),.int .i64 (0),.int .i64 (0),.int .i64 (0),.int .i64 (32),.int .i64 (0),.int .i64 (0),.int .i64 (0),.int .i64 (0),.int .i64 (0),.int .i64 (0),.int .i64 (0),.int .i64 (0),.int .i64 (0),.int .i64 (0),.int .i64 (0),.int .i64 (32),.int .i64 (0),.int .i64 (0),.int .i64 (0),.int .i64 (0),.int .i64 (0),.int .i64 (0),.int .i64 (0),.int .i64 (0),.int .i64 (0),.int .i64 (0),.int .i64 (0),.int .i64 (32),.int .i64 (0),.int .i64 (0),.int .i64 (0),.int .i64 (0),.int .i64 (0),.int .i64 (0),.int .i64 (0),.int .i64 (0),.int .i64 (0),.int .i64 (0),.int .i64 (0)] <| .dt 22 (.mk 12) [.int .i64 (120),.int .i64 (0),.int .i64 (0),.int .i64 (0),.int .i64 (0),.int .i64 (0),.int .i64 (0),.int .i64 (0),.int .i64 (0),.int .i64 (0),.int .i64 (0),.int .i64 (0),.int .i64 (46),.int .i64 (0),.int .i64 (0),.int .i64 (0),.int .i64 (0),.int .i64 (0),.int .i64 (0),.int .i64 (0),.int .i64 (0),.int .i64 (0),.int .i64 (0),.int .i64 (0),.int .i64 (121),.int .i64 (0),.int .i64 (0),.int .i64 (0),.int .i64 (0),.int .i64 (0),.int .i64 (0),.int .i64 (0),.int .i64 (0),.int .i64 (0),.int .i64 (0),.int .i64 (0),.int .i64 (32),.int .i64 (0),.int .i64 (0),.int .i64 (0),.int .i64 (0),.int .i64 (0),.int .i64 (0),.int .i64 (0),.int .i64 (0),.int .i64 (0),.int .i64 (0),.int .i64 (0),.int .i64 (32),.int .i64 (0),.int .i64 (0),.int .i64 (0),.int .i64 (0),.int .i64 (0),.int .i64 (0),.int .i64 (0),.int .i64 (0),.int .i64 (0),.int .i64 (0),.int .i64 (0),.int .i64 (32),.int .i64 (0),.int .i64 (0),.int .i64 (0),.int .i64 (0),.int .i64 (0),.int .i64 (0),.int .i64 (0),.int .i64 (0),.int .i64 (0),.int .i64 (0),.int .i64 (0)] <| .dt 12 (.mk 2) [h 24 22,.bool true,h 25 22,.bool false,h 26 22,.bool false] <| .fn pck_s [h 27 12] 1 <| .lt 8 (.bin .neq) [h 28 3,.int .i64 (0)] <| .br 29 (.no) (.dt 22 (.mk 12) [.int .i64 (97),.int .i64 (0),.int .i64 (0),.int .i64 (0),.int .i64 (0),.int .i64 (0),.int .i64 (0),.int .i64 (0),.int .i64 (0),.int .i64 (0),.int .i64 (0),.int .i64 (0),.int .i64 (98),.int .i64 (0),.int .i64 (0),.int .i64 (0),.int .i64 (0),.int .i64 (0),.int .i64 (0),.int .i64 (0),.int .i64 (0),.int .i64 (0),.int .i64 (0),.int .i64 (0),.int .i64 (32),.int .i64 (0),.int .i64 (0),.int .i64 (0),.int .i64 (0),.int .i64 (0),.int .i64 (0),.int .i64 (0),.int .i64 (0),.int .i64 (0),.int .i64 (0),.int .i64 (0),.int .i64 (99),.int .i64 (0),.int .i64 (0),.int .i64 (0),.int .i64 (0),.int .i64 (0),.int .i64 (0),.int .i64 (0),.int .i64 (0),.int .i64 (0),.int .i64 (0),.int .i64 (0),.int .i64 (100),.int .i64 (0),.int .i64 (0),.int .i64 (0),.int .i64 (0),.int .i64 (0),.int .i64 (0),.int .i64 (0),.int .i64 (0),.int .i64 (0),.int .i64 (0),.int .i64 (0),.int .i64 (32),.int .i64 (0),.int .i64 (0),.int .i64 (0),.int .i64 (0),.int .i64 (0),.int .i64 (0),.int .i64 (0),.int .i64 (0),.int .i64 (0),.int .i64 (0),.int .i64 (0)] <| .dt 22 (.mk 12) [.int .i64 (101),.int .i64 (0),.int .i64 (0),.int .i64 (0),.int .i64 (0),.int .i64 (0),.int .i64 (0),.int .i64 (0),.int .i64 (0),.int .i64 (0),.int .i64 (0),.int .i64 (0),.int .i64 (102),.int .i64 (0),.int .i64 (0),.int .i64 (0),.int .i64 (0),.int .i64 (0),.int .i64 (0),.int .i64 (0),.int .i64 (0),.int .i64 (0),.int .i64 (0),.int .i64 (0),.int .i64 (32),.int .i64 (0),.int .i64 (0),.int .i64 (0),.int .i64 (0),.int .i64 (0),.int .i64 (0),.int .i64 (0),.int .i64 (0),.int .i64 (0),.int .i64 (0),.int .i64 (0),.int .i64 (32),.int .i64 (0),.int .i64 (0),.int .i64 (0),.int .i64 (0),.int .i64 (0),.int .i64 (0),.int .i64 (0),.int .i64 (0),.int .i64 (0),.int .i64 (0),.int .i64 (0),.int .i64 (32),.int .i64 (0),.int .i64 (0),.int .i64 (0),.int .i64 (0),.int .i64 (0),.int .i64 (0),.int .i64 (0),.int .i64 (0),.int .i64 (0),.int .i64 (0),.int .i64 (0),.int .i64 (32),.int .i64 (0),.int .i64 (0),.int .i64 (0),.int .i64 (0),.int .i64 (0),.int .i64 (0),.int .i64 (0),.int .i64 (0),.int .i64 (0),.int .i64 (0),.int .i64 (0)] <| .dt 22 (.mk 12) [.int .i64 (120),.int .i64 (0),.int .i64 (0),.int .i64 (0),.int .i64 (0),.int .i64 (0),.int .i64 (0),.int .i64 (0),.int .i64 (0),.int .i64 (0),.int .i64 (0),.int .i64 (0),.int .i64 (46),.int .i64 (0),.int .i64 (0),.int .i64 (0),.int .i64 (0),.int .i64 (0),.int .i64 (0),.int .i64 (0),.int .i64 (0),.int .i64 (0),.int .i64 (0),.int .i64 (0),.int .i64 (121),.int .i64 (0),.int .i64 (0),.int .i64 (0),.int .i64 (0),.int .i64 (0),.int .i64 (0),.int .i64 (0),.int .i64 (0),.int .i64 (0),.int .i64 (0),.int .i64 (0),.int .i64 (32),.int .i64 (0),.int .i64 (0),.int .i64 (0),.int .i64 (0),.int .i64 (0),.int .i64 (0),.int .i64 (0),.int .i64 (0),.int .i64 (0),.int .i64 (0),.int .i64 (0),.int .i64 (32),.int .i64 (0),.int .i64 (0),.int .i64 (0),.int .i64 (0),.int .i64 (0),.int .i64 (0),.int .i64 (0),.int .i64 (0),.int .i64 (0),.int .i64 (0),.int .i64 (0),.int .i64 (32),.int .i64 (0),.int .i64 (0),.int .i64 (0),.int .i64 (0),.int .i64 (0),.int .i64 (0),.int .i64 (0),.int .i64 (0),.int .i64 (0),.int .i64 (0),.int .i64 (0)] <| .dt 12 (.mk 2) [h 30 22,.bool true,h 31 22,.bool false,h 32 22,.bool false] <| .fn pck_s [h 33 12] 1 <| .lt 8 (.bin .neq) [h 34 3,.int .i64 (0)] <| .br 35 (.no) (.dt 22 (.mk 12) [.int .i64 (97),.int .i64 (0),.int .i64 (0),.int .i64 (0),.int .i64 (0),.int .i64 (0),.int .i64 (0),.int .i64 (0),.int .i64 (0),.int .i64 (0),.int .i64 (0),.int .i64 (0),.int .i64 (98),.int .i64 (0),.int .i64 (0),.int .i64 (0),.int .i64 (0),.int .i64 (0),.int .i64 (0),.int .i64 (0),.int .i64 (0),.int .i64 (0),.int .i64 (0),.int .i64 (0),.int .i64 (32),.int .i64 (0),.int .i64 (0),.int .i64 (0),.int .i64 (0),.int .i64 (0),.int .i64 (0),.int .i64 (0),.int .i64 (0),.int .i64 (0),.int .i64 (0),.int .i64 (0),.int .i64 (99),.int .i64 (0),.int .i64 (0),.int .i64 (0),.int .i64 (0),.int .i64 (0),.int .i64 (0),.int .i64 (0),.int .i64 (0),.int .i64 (0),.int .i64 (0),.int .i64 (0),.int .i64 (100),.int .i64 (0),.int .i64 (0),.int .i64 (0),.int .i64 (0),.int .i64 (0),.int .i64 (0),.int .i64 (0),.int .i64 (0),.int .i64 (0),.int .i64 (0),.int .i64 (0),.int .i64 (32),.int .i64 (0),.int .i64 (0),.int .i64 (0),.int .i64 (0),.int .i64 (0),.int .i64 (0),.int .i64 (0),.int .i64 (0),.int .i64 (0),.int .i64 (0),.int .i64 (0)] <| .dt 22 (.mk 12) [.int .i64 (101),.int .i64 (0),.int .i64 (0),.int .i64 (0),.int .i64 (0),.int .i64 (0),.int .i64 (0),.int .i64 (0),.int .i64 (0),.int .i64 (0),.int .i64 (0),.int .i64 (0),.int .i64 (102),.int .i64 (0),.int .i64 (0),.int .i64 (0),.int .i64 (0),.int .i64 (0),.int .i64 (0),.int .i64 (0),.int .i64 (0),.int .i64 (0),.int .i64 (0),.int .i64 (0),.int .i64 (32),.int .i64 (0),.int .i64 (0),.int .i64 (0),.int .i64 (0),.int .i64 (0),.int .i64 (0),.int .i64 (0),.int .i64 (0),.int .i64 (0),.int .i64 (0),.int .i64 (0),.int .i64 (32),.int .i64 (0),.int .i64 (0),.int .i64 (0),.int .i64 (0),.int .i64 (0),.int .i64 (0),.int .i64 (0),.int .i64 (0),.int .i64 (0),.int .i64 (0),.int .i64 (0),.int .i64 (32),.int .i64 (0),.int .i64 (0),.int .i64 (0),.int .i64 (0),.int .i64 (0),.int .i64 (0),.int .i64 (0),.int .i64 (0),.int .i64 (0),.int .i64 (0),.int .i64 (0),.int .i64 (32),.int .i64 (0),.int .i64 (0),.int .i64 (0),.int .i64 (0),.int .i64 (0),.int .i64 (0),.int .i64 (0),.int .i64 (0),.int .i64 (0),.int .i64 (0),.int .i64 (0)] <| .dt 22 (.mk 12) [.int .i64 (120),.int .i64 (0),.int .i64 (0),.int .i64 (0),.int .i64 (0),.int .i64 (0),.int .i64 (0),.int .i64 (0),.int .i64 (0),.int .i64 (0),.int .i64 (0),.int .i64 (0),.int .i64 (46),.int .i64 (0),.int .i64 (0),.int .i64 (0),.int .i64 (0),.int .i64 (0),.int .i64 (0),.int .i64 (0),.int .i64 (0),.int .i64 (0),.int .i64 (0),.int .i64 (0),.int .i64 (121),.int .i64 (0),.int .i64 (0),.int .i64 (0),.int .i64 (0),.int .i64 (0),.int .i64 (0),.int .i64 (0),.int .i64 (0),.int .i64 (0),.int .i64 (0),.int .i64 (0),.int .i64 (32),.int .i64 (0),.int .i64 (0),.int .i64 (0),.int .i64 (0),.int .i64 (0),.int .i64 (0),.int .i64 (0),.int .i64 (0),.int .i64 (0),.int .i64 (0),.int .i64 (0),.int .i64 (32),.int .i64 (0),.int .i64 (0),.int .i64 (0),.int .i64 (0),.int .i64 (0),.int .i64 (0),.int .i64 (0),.int .i64 (0),.int .i64 (0),.int .i64 (0),.int .i64 (0),.int .i64 (32),.int .i64 (0),.int .i64 (0),.int .i64 (0),.int .i64 (0),.int .i64 (0),.int .i64 (0),.int .i64 (0),.int .i64 (0),.int .i64 (0),.int .i64 (0),.int .i64 (0)] <| .dt 12 (.mk 2) [h 36 22,.bool true,h 37 22,.bool false,h 38 22,.bool false] <| .fn pck_s [h 39 12] 1 <| .lt 8 (.bin .neq) [h 40 3,.int .i64 (0)] <| .br 41 (.no) (.dt 22 (.mk 12) [.int .i64 (97),.int .i64 (0),.int .i64 (0),.int .i64 (0),.int .i64 (0),.int .i64 (0),.int .i64 (0),.int .i64 (0),.int .i64 (0),.int .i64 (0),.int .i64 (0),.int .i64 (0),.int .i64 (98),.int .i64 (0),.int .i64 (0),.int .i64 (0),.int .i64 (0),.int .i64 (0),.int .i64 (0),.int .i64 (0),.int .i64 (0),.int .i64 (0),.int .i64 (0),.int .i64 (0),.int .i64 (32),.int .i64 (0),.int .i64 (0),.int .i64 (0),.int .i64 (0),.int .i64 (0),.int .i64 (0),.int .i64 (0),.int .i64 (0),.int .i64 (0),.int .i64 (0),.int .i64 (0),.int .i64 (99),.int .i64 (0),.int .i64 (0),.int .i64 (0),.int .i64 (0),.int .i64 (0),.int .i64 (0),.int .i64 (0),.int .i64 (0),.int .i64 (0),.int .i64 (0),.int .i64 (0),.int .i64 (100),.int .i64 (0),.int .i64 (0),.int .i64 (0),.int .i64 (0),.int .i64 (0),.int .i64 (0),.int .i64 (0),.int .i64 (0),.int .i64 (0),.int .i64 (0),.int .i64 (0),.int .i64 (32),.int .i64 (0),.int .i64 (0),.int .i64 (0),.int .i64 (0),.int .i64 (0),.int .i64 (0),.int .i64 (0),.int .i64 (0),.int .i64 (0),.int .i64 (0),.int .i64 (0)] <| .dt 22 (.mk 12) [.int .i64 (101),.int .i64 (0),.int .i64 (0),.int .i64 (0),.int .i64 (0),.int .i64 (0),.int .i64 (0),.int .i64 (0),.int .i64 (0),.int .i64 (0),.int .i64 (0),.int .i64 (0),.int .i64 (102),.int .i64 (0),.int .i64 (0),.int .i64 (0),.int .i64 (0),.int .i64 (0),.int .i64 (0),.int .i64 (0),.int .i64 (0),.int .i64 (0),.int .i64 (0),.int .i64 (0),.int .i64 (32),.int .i64 (0),.int .i64 (0),.int .i64 (0),.int .i64 (0),.int .i64 (0),.int .i64 (0),.int .i64 (0),.int .i64 (0),.int .i64 (0),.int .i64 (0),.int .i64 (0),.int .i64 (32),.int .i64 (0),.int .i64 (0),.int .i64 (0),.int .i64 (0),.int .i64 (0),.int .i64 (0),.int .i64 (0),.int .i64 (0),.int .i64 (0),.int .i64 (0),.int .i64 (0),.int .i64 (32),.int .i64 (0),.int .i64 (0),.int .i64 (0),.int .i64 (0),.int .i64 (0),.int .i64 (0),.int .i64 (0),.int .i64 (0),.int .i64 (0),.int .i64 (0),.int .i64 (0),.int .i64 (32),.int .i64 (0),.int .i64 (0),.int .i64 (0),.int .i64 (0),.int .i64 (0),.int .i64 (0),.int .i64 (0),.int .i64 (0),.int .i64 (0),.int .i64 (0),.int .i64 (0)] <| .dt 22 (.mk 12) [.int .i64 (120),.int .i64 (0),.int .i64 (0),.int .i64 (0),.int .i64 (0),.int .i64 (0),.int .i64 (0),.int .i64 (0),.int .i64 (0),.int .i64 (0),.int .i64 (0),.int .i64 (0),.int .i64 (46),.int .i64 (0),.int .i64 (0),.int .i64 (0),.int .i64 (0),.int .i64 (0),.int .i64 (0),.int .i64 (0),.int .i64 (0),.int .i64 (0),.int .i64 (0),.int .i64 (0),.int .i64 (121),.int .i64 (0),.int .i64 (0),.int .i64 (0),.int .i64 (0),.int .i64 (0),.int .i64 (0),.int .i64 (0),.int .i64 (0),.int .i64 (0),.int .i64 (0),.int .i64 (0),.int .i64 (32),.int .i64 (0),.int .i64 (0),.int .i64 (0),.int .i64 (0),.int .i64 (0),.int .i64 (0),.int .i64 (0),.int .i64 (0),.int .i64 (0),.int .i64 (0),.int .i64 (0),.int .i64 (32),.int .i64 (0),.int .i64 (0),.int .i64 (0),.int .i64 (0),.int .i64 (0),.int .i64 (0),.int .i64 (0),.int .i64 (0),.int .i64 (0),.int .i64 (0),.int .i64 (0),.int .i64 (32),.int .i64 (0),.int .i64 (0),.int .i64 (0),.int .i64 (0),.int .i64 (0),.int .i64 (0),.int .i64 (0),.int .i64 (0),.int .i64 (0),.int .i64 (0),.int .i64 (0)] <| .dt 12 (.mk 2) [h 42 22,.bool true,h 43 22,.bool false,h 44 22,.bool false] <| .fn pck_s [h 45 12] 1 <| .lt 8 (.bin .neq) [h 46 3,.int .i64 (0)] <| .br 47 (.no) (.dt 22 (.mk 12) [.int .i64 (97),.int .i64 (0),.int .i64 (0),.int .i64 (0),.int .i64 (0),.int .i64 (0),.int .i64 (0),.int .i64 (0),.int .i64 (0),.int .i64 (0),.int .i64 (0),.int .i64 (0),.int .i64 (98),.int .i64 (0),.int .i64 (0),.int .i64 (0),.int .i64 (0),.int .i64 (0),.int .i64 (0),.int .i64 (0),.int .i64 (0),.int .i64 (0),.int .i64 (0),.int .i64 (0),.int .i64 (32),.int .i64 (0),.int .i64 (0),.int .i64 (0),.int .i64 (0),.int .i64 (0),.int .i64 (0),.int .i64 (0),.int .i64 (0),.int .i64 (0),.int .i64 (0),.int .i64 (0),.int .i64 (99),.int .i64 (0),.int .i64 (0),.int .i64 (0),.int .i64 (0),.int .i64 (0),.int .i64 (0),.int .i64 (0),.int .i64 (0),.int .i64 (0),.int .i64 (0),.int .i64 (0),.int .i64 (100),.int .i64 (0),.int .i64 (0),.int .i64 (0),.int .i64 (0),.int .i64 (0),.int .i64 (0),.int .i64 (0),.int .i64 (0),.int .i64 (0),.int .i64 (0),.int .i64 (0),.int .i64 (32),.int .i64 (0),.int .i64 (0),.int .i64 (0),.int .i64 (0),.int .i64 (0),.int .i64 (0),.int .i64 (0),.int .i64 (0),.int .i64 (0),.int .i64 (0),.int .i64 (0)] <| .dt 22 (.mk 12) [.int .i64 (101),.int .i64 (0),.int .i64 (0),.int .i64 (0),.int .i64 (0),.int .i64 (0),.int .i64 (0),.int .i64 (0),.int .i64 (0),.int .i64 (0),.int .i64 (0),.int .i64 (0),.int .i64 (102),.int .i64 (0),.int .i64 (0),.int .i64 (0),.int .i64 (0),.int .i64 (0),.int .i64 (0),.int .i64 (0),.int .i64 (0),.int .i64 (0),.int .i64 (0),.int .i64 (0),.int .i64 (32),.int .i64 (0),.int .i64 (0),.int .i64 (0),.int .i64 (0),.int .i64 (0),.int .i64 (0),.int .i64 (0),.int .i64 (0),.int .i64 (0),.int .i64 (0),.int .i64 (0),.int .i64 (32),.int .i64 (0),.int .i64 (0),.int .i64 (0),.int .i64 (0),.int .i64 (0),.int .i64 (0),.int .i64 (0),.int .i64 (0),.int .i64 (0),.int .i64 (0),.int .i64 (0),.int .i64 (32),.int .i64 (0),.int .i64 (0),.int .i64 (0),.int .i64 (0),.int .i64 (0),.int .i64 (0),.int .i64 (0),.int .i64 (0),.int .i64 (0),.int .i64 (0),.int .i64 (0),.int .i64 (32),.int .i64 (0),.int .i64 (0),.int .i64 (0),.int .i64 (0),.int .i64 (0),.int .i64 (0),.int .i64 (0),.int .i64 (0),.int .i64 (0),.int .i64 (0),.int .i64 (0)] <| .dt 22 (.mk 12) [.int .i64 (120),.int .i64 (0),.int .i64 (0),.int .i64 (0),.int .i64 (0),.int .i64 (0),.int .i64 (0),.int .i64 (0),.int .i64 (0),.int .i64 (0),.int .i64 (0),.int .i64 (0),.int .i64 (46),.int .i64 (0),.int .i64 (0),.int .i64 (0),.int .i64 (0),.int .i64 (0),.int .i64 (0),.int .i64 (0),.int .i64 (0),.int .i64 (0),.int .i64 (0),.int .i64 (0),.int .i64 (121),.int .i64 (0),.int .i64 (0),.int .i64 (0),.int .i64 (0),.int .i64 (0),.int .i64 (0),.int .i64 (0),.int .i64 (0),.int .i64 (0),.int .i64 (0),.int .i64 (0),.int .i64 (32),.int .i64 (0),.int .i64 (0),.int .i64 (0),.int .i64 (0),.int .i64 (0),.int .i64 (0),.int .i64 (0),.int .i64 (0),.int .i64 (0),.int .i64 (0),.int .i64 (0),.int .i64 (32),.int .i64 (0),.int .i64 (0),.int .i64 (0),.int .i64 (0),.int .i64 (0),.int .i64 (0),.int .i64 (0),.int .i64 (0),.int .i64 (0),.int .i64 (0),.int .i64 (0),.int .i64 (32),.int .i64 (0),.int .i64 (0),.int .i64 (0),.int .i64 (0),.int .i64 (0),.int .i64 (0),.int .i64 (0),.int .i64 (0),.int .i64 (0),.int .i64 (0),.int .i64 (0)] <| .dt 12 (.mk 2) [h 48 22,.bool true,h 49 22,.bool false,h 50 22,.bool false] <| .fn pck_s [h 51 12] 1 <| .lt 8 (.bin .neq) [h 52 3,.int .i64 (0)] <| .br 53 (.no) (.dt 22 (.mk 12) [.int .i64 (97),.int .i64 (0),.int .i64 (0),.int .i64 (0),.int .i64 (0),.int .i64 (0),.int .i64 (0),.int .i64 (0),.int .i64 (0),.int .i64 (0),.int .i64 (0),.int .i64 (0),.int .i64 (98),.int .i64 (0),.int .i64 (0),.int .i64 (0),.int .i64 (0),.int .i64 (0),.int .i64 (0),.int .i64 (0),.int .i64 (0),.int .i64 (0),.int .i64 (0),.int .i64 (0),.int .i64 (32),.int .i64 (0),.int .i64 (0),.int .i64 (0),.int .i64 (0),.int .i64 (0),.int .i64 (0),.int .i64 (0),.int .i64 (0),.int .i64 (0),.int .i64 (0),.int .i64 (0),.int .i64 (99),.int .i64 (0),.int .i64 (0),.int .i64 (0),.int .i64 (0),.int .i64 (0),.int .i64 (0),.int .i64 (0),.int .i64 (0),.int .i64 (0),.int .i64 (0),.int .i64 (0),.int .i64 (100),.int .i64 (0),.int .i64 (0),.int .i64 (0),.int .i64 (0),.int .i64 (0),.int .i64 (0),.int .i64 (0),.int .i64 (0),.int .i64 (0),.int .i64 (0),.int .i64 (0),.int .i64 (32),.int .i64 (0),.int .i64 (0),.int .i64 (0),.int .i64 (0),.int .i64 (0),.int .i64 (0),.int .i64 (0),.int .i64 (0),.int .i64 (0),.int .i64 (0),.int .i64 (0)] <| .dt 22 (.mk 12) [.int .i64 (101),.int .i64 (0),.int .i64 (0),.int .i64 (0),.int .i64 (0),.int .i64 (0),.int .i64 (0),.int .i64 (0),.int .i64 (0),.int .i64 (0),.int .i64 (0),.int .i64 (0),.int .i64 (102),.int .i64 (0),.int .i64 (0),.int .i64 (0),.int .i64 (0),.int .i64 (0),.int .i64 (0),.int .i64 (0),.int .i64 (0),.int .i64 (0),.int .i64 (0),.int .i64 (0),.int .i64 (32),.int .i64 (0),.int .i64 (0),.int .i64 (0),.int .i64 (0),.int .i64 (0),.int .i64 (0),.int .i64 (0),.int .i64 (0),.int .i64 (0),.int .i64 (0),.int .i64 (0),.int .i64 (32),.int .i64 (0),.int .i64 (0),.int .i64 (0),.int .i64 (0),.int .i64 (0),.int .i64 (0),.int .i64 (0),.int .i64 (0),.int .i64 (0),.int .i64 (0),.int .i64 (0),.int .i64 (32),.int .i64 (0),.int .i64 (0),.int .i64 (0),.int .i64 (0),.int .i64 (0),.int .i64 (0),.int .i64 (0),.int .i64 (0),.int .i64 (0),.int .i64 (0),.int .i64 (0),.int .i64 (32),.int .i64 (0),.int .i64 (0),.int .i64 (0),.int .i64 (0),.int .i64 (0),.int .i64 (0),.int .i64 (0),.int .i64 (0),.int .i64 (0),.int .i64 (0),.int .i64 (0)] <| .dt 22 (.mk 12) [.int .i64 (120),.int .i64 (0),.int .i64 (0),.int .i64 (0),.int .i64 (0),.int .i64 (0),.int .i64 (0),.int .i64 (0),.int .i64 (0),.int .i64 (0),.int .i64 (0),.int .i64 (0),.int .i64 (46),.int .i64 (0),.int .i64 (0),.int .i64 (0),.int .i64 (0),.int .i64 (0),.int .i64 (0),.int .i64 (0),.int .i64 (0),.int .i64 (0),.int .i64 (0),.int .i64 (0),.int .i64 (121),.int .i64 (0),.int .i64 (0),.int .i64 (0),.int .i64 (0),.int .i64 (0),.int .i64 (0),.int .i64 (0),.int .i64 (0),.int .i64 (0),.int .i64 (0),.int .i64 (0),.int .i64 (32),.int .i64 (0),.int .i64 (0),.int .i64 (0),.int .i64 (0),.int .i64 (0),.int .i64 (0),.int .i64 (0),.int .i64 (0),.int .i64 (0),.int .i64 (0),.int .i64 (0),.int .i64 (32),.int .i64 (0),.int .i64 (0),.int .i64 (0),.int .i64 (0),.int .i64 (0),.int .i64 (0),.int .i64 (0),.int .i64 (0),.int .i64 (0),.int .i64 (0),.int .i64 (0),.int .i64 (32),.int .i64 (0),.int .i64 (0),.int .i64 (0),.int .i64 (0),.int .i64 (0),.int .i64 (0),.int .i64 (0),.int .i64 (0),.int .i64 (0),.int .i64 (0),.int .i64 (0)] <| .dt 12 (.mk 2) [h 54 22,.bool true,h 55 22,.bool false,h 56 22,.bool false] <| .fn pck_s [h 57 12] 1 <| .lt 8 (.bin .neq) [h 58 3,.int .i64 (0)] <| .br 59 (.no) (.dt 22 (.mk 12) [.int .i64 (97),.int .i64 (0),.int .i64 (0),.int .i64 (0),.int .i64 (0),.int .i64 (0),.int .i64 (0),.int .i64 (0),.int .i64 (0),.int .i64 (0),.int .i64 (0),.int .i64 (0),.int .i64 (98),.int .i64 (0),.int .i64 (0),.int .i64 (0),.int .i64 (0),.int .i64 (0),.int .i64 (0),.int .i64 (0),.int .i64 (0),.int .i64 (0),.int .i64 (0),.int .i64 (0),.int .i64 (32),.int .i64 (0),.int .i64 (0),.int .i64 (0),.int .i64 (0),.int .i64 (0),.int .i64 (0),.int .i64 (0),.int .i64 (0),.int .i64 (0),.int .i64 (0),.int .i64 (0),.int .i64 (99),.int .i64 (0),.int .i64 (0),.int .i64 (0),.int .i64 (0),.int .i64 (0),.int .i64 (0),.int .i64 (0),.int .i64 (0),.int .i64 (0),.int .i64 (0),.int .i64 (0),.int .i64 (100),.int .i64 (0),.int .i64 (0),.int .i64 (0),.int .i64 (0),.int .i64 (0),.int .i64 (0),.int .i64 (0),.int .i64 (0),.int .i64 (0),.int .i64 (0),.int .i64 (0),.int .i64 (32),.int .i64 (0),.int .i64 (0),.int .i64 (0),.int .i64 (0),.int .i64 (0),.int .i64 (0),.int .i64 (0),.int .i64 (0),.int .i64 (0),.int .i64 (0),.int .i64 (0)] <| .dt 22 (.mk 12) [.int .i64 (101),.int .i64 (0),.int .i64 (0),.int .i64 (0),.int .i64 (0),.int .i64 (0),.int .i64 (0),.int .i64 (0),.int .i64 (0),.int .i64 (0),.int .i64 (0),.int .i64 (0),.int .i64 (102),.int .i64 (0),.int .i64 (0),.int .i64 (0),.int .i64 (0),.int .i64 (0),.int .i64 (0),.int .i64 (0),.int .i64 (0),.int .i64 (0),.int .i64 (0),.int .i64 (0),.int .i64 (32),.int .i64 (0),.int .i64 (0),.int .i64 (0),.int .i64 (0),.int .i64 (0),.int .i64 (0),.int .i64 (0),.int .i64 (0),.int .i64 (0),.int .i64 (0),.int .i64 (0),.int .i64 (32),.int .i64 (0),.int .i64 (0),.int .i64 (0),.int .i64 (0),.int .i64 (0),.int .i64 (0),.int .i64 (0),.int .i64 (0),.int .i64 (0),.int .i64 (0),.int .i64 (0),.int .i64 (32),.int .i64 (0),.int .i64 (0),.int .i64 (0),.int .i64 (0),.int .i64 (0),.int .i64 (0),.int .i64 (0),.int .i64 (0),.int .i64 (0),.int .i64 (0),.int .i64 (0),.int .i64 (32),.int .i64 (0),.int .i64 (0),.int .i64 (0),.int .i64 (0),.int .i64 (0),.int .i64 (0),.int .i64 (0),.int .i64 (0),.int .i64 (0),.int .i64 (0),.int .i64 (0)] <| .dt 22 (.mk 12) [.int .i64 (120),.int .i64 (0),.int .i64 (0),.int .i64 (0),.int .i64 (0),.int .i64 (0),.int .i64 (0),.int .i64 (0),.int .i64 (0),.int .i64 (0),.int .i64 (0),.int .i64 (0),.int .i64 (46),.int .i64 (0),.int .i64 (0),.int .i64 (0),.int .i64 (0),.int .i64 (0),.int .i64 (0),.int .i64 (0),.int .i64 (0),.int .i64 (0),.int .i64 (0),.int .i64 (0),.int .i64 (121),.int .i64 (0),.int .i64 (0),.int .i64 (0),.int .i64 (0),.int .i64 (0),.int .i64 (0),.int .i64 (0),.int .i64 (0),.int .i64 (0),.int .i64 (0),.int .i64 (0),.int .i64 (32),.int .i64 (0),.int .i64 (0),.int .i64 (0),.int .i64 (0),.int .i64 (0),.int .i64 (0),.int .i64 (0),.int .i64 (0),.int .i64 (0),.int .i64 (0),.int .i64 (0),.int .i64 (32),.int .i64 (0),.int .i64 (0),.int .i64 (0),.int .i64 (0),.int .i64 (0),.int .i64 (0),.int .i64 (0),.int .i64 (0),.int .i64 (0),.int .i64 (0),.int .i64 (0),.int .i64 (32),.int .i64 (0),.int .i64 (0),.int .i64 (0),.int .i64 (0),.int .i64 (0),.int .i64 (0),.int .i64 (0),.int .i64 (0),.int .i64 (0),.int .i64 (0),.int .i64 (0)] <| .dt 12 (.mk 2) [h 60 22,.bool true,h 61 22,.bool false,h 62 22,.bool false] <| .fn pck_s [h 63 12] 1 <| .lt 8 (.bin .neq) [h 64 3,.int .i64 (0)] <| .br 65 (.no) (.ret [.bool true])))))))))))
theorem works_c {G:Nat→Option Obj} (hst:StartOk Tryd.prog G gl H0 n0):ConOk Tryd.prog G 15 [] works_s [.s 8]:=by
 refine con_of_tree (C:=cx U_works []) (d:=60) works_t (cxg (U_works_ok hst) .nil) hst ⟨Tryd.f15,_,Tryd.func15,rfl⟩ (by kernel_rfl) (by kernel_rfl) ?_
 intro us outs hs
 unfold works_s at hs
 split at hs
 ·skip
  skip
  cases hs
  unfold works_t
  refine s0 (.nil) rfl (by simp [Ev.ok,Ev.len]) ?_
  refine s2 (r:=rCl) (ev_mkS [(_,_,_,_,_,_,_,_,_,_,_,_),(_,_,_,_,_,_,_,_,_,_,_,_),(_,_,_,_,_,_,_,_,_,_,_,_),(_,_,_,_,_,_,_,_,_,_,_,_),(_,_,_,_,_,_,_,_,_,_,_,_),(_,_,_,_,_,_,_,_,_,_,_,_)] rfl (by decide) rfl) rfl rfl ?_
  refine s2 (r:=rCl) (ev_mkS [(_,_,_,_,_,_,_,_,_,_,_,_),(_,_,_,_,_,_,_,_,_,_,_,_),(_,_,_,_,_,_,_,_,_,_,_,_),(_,_,_,_,_,_,_,_,_,_,_,_),(_,_,_,_,_,_,_,_,_,_,_,_),(_,_,_,_,_,_,_,_,_,_,_,_)] rfl (by decide) rfl) rfl rfl ?_
  refine s2 (r:=rCl) (ev_mkS [(_,_,_,_,_,_,_,_,_,_,_,_),(_,_,_,_,_,_,_,_,_,_,_,_),(_,_,_,_,_,_,_,_,_,_,_,_),(_,_,_,_,_,_,_,_,_,_,_,_),(_,_,_,_,_,_,_,_,_,_,_,_),(_,_,_,_,_,_,_,_,_,_,_,_)] rfl (by decide) rfl) rfl rfl ?_
  refine s2 (r:=rRw) (ev_mkS [(_,_),(_,_),(_,_)] rfl (by decide) rfl) rfl rfl ?_
  refine s31 (pck_s_e _ (by decide +kernel)) rfl ?_
  refine s1 (ev_neq _ _ _) rfl rfl rfl ?_
  refine s4 rfl (fun g0=>?_) fun g0=>?_
  ·refine s8 ?_
   (exact absurd (by decide +kernel) g0)
  refine s2 (r:=rCl) (ev_mkS [(_,_,_,_,_,_,_,_,_,_,_,_),(_,_,_,_,_,_,_,_,_,_,_,_),(_,_,_,_,_,_,_,_,_,_,_,_),(_,_,_,_,_,_,_,_,_,_,_,_),(_,_,_,_,_,_,_,_,_,_,_,_),(_,_,_,_,_,_,_,_,_,_,_,_)] rfl (by decide) rfl) rfl rfl ?_
  refine s2 (r:=rCl) (ev_mkS [(_,_,_,_,_,_,_,_,_,_,_,_),(_,_,_,_,_,_,_,_,_,_,_,_),(_,_,_,_,_,_,_,_,_,_,_,_),(_,_,_,_,_,_,_,_,_,_,_,_),(_,_,_,_,_,_,_,_,_,_,_,_),(_,_,_,_,_,_,_,_,_,_,_,_)] rfl (by decide) rfl) rfl rfl ?_
  refine s2 (r:=rCl) (ev_mkS [(_,_,_,_,_,_,_,_,_,_,_,_),(_,_,_,_,_,_,_,_,_,_,_,_),(_,_,_,_,_,_,_,_,_,_,_,_),(_,_,_,_,_,_,_,_,_,_,_,_),(_,_,_,_,_,_,_,_,_,_,_,_),(_,_,_,_,_,_,_,_,_,_,_,_)] rfl (by decide) rfl) rfl rfl ?_
  refine s2 (r:=rRw) (ev_mkS [(_,_),(_,_),(_,_)] rfl (by decide) rfl) rfl rfl ?_
  refine s31 (pck_s_e _ (by decide +kernel)) rfl ?_
  refine s1 (ev_neq _ _ _) rfl rfl rfl ?_
  refine s4 rfl (fun g1=>?_) fun g1=>?_
  ·refine s8 ?_
   (exact absurd (by decide +kernel) g1)
  refine s2 (r:=rCl) (ev_mkS [(_,_,_,_,_,_,_,_,_,_,_,_),(_,_,_,_,_,_,_,_,_,_,_,_),(_,_,_,_,_,_,_,_,_,_,_,_),(_,_,_,_,_,_,_,_,_,_,_,_),(_,_,_,_,_,_,_,_,_,_,_,_),(_,_,_,_,_,_,_,_,_,_,_,_)] rfl (by decide) rfl) rfl rfl ?_
  refine s2 (r:=rCl) (ev_mkS [(_,_,_,_,_,_,_,_,_,_,_,_),(_,_,_,_,_,_,_,_,_,_,_,_),(_,_,_,_,_,_,_,_,_,_,_,_),(_,_,_,_,_,_,_,_,_,_,_,_),(_,_,_,_,_,_,_,_,_,_,_,_),(_,_,_,_,_,_,_,_,_,_,_,_)] rfl (by decide) rfl) rfl rfl ?_
  refine s2 (r:=rCl) (ev_mkS [(_,_,_,_,_,_,_,_,_,_,_,_),(_,_,_,_,_,_,_,_,_,_,_,_),(_,_,_,_,_,_,_,_,_,_,_,_),(_,_,_,_,_,_,_,_,_,_,_,_),(_,_,_,_,_,_,_,_,_,_,_,_),(_,_,_,_,_,_,_,_,_,_,_,_)] rfl (by decide) rfl) rfl rfl ?_
  refine s2 (r:=rRw) (ev_mkS [(_,_),(_,_),(_,_)] rfl (by decide) rfl) rfl rfl ?_
  refine s31 (pck_s_e _ (by decide +kernel)) rfl ?_
  refine s1 (ev_neq _ _ _) rfl rfl rfl ?_
  refine s4 rfl (fun g2=>?_) fun g2=>?_
  ·refine s8 ?_
   (exact absurd (by decide +kernel) g2)
  refine s2 (r:=rCl) (ev_mkS [(_,_,_,_,_,_,_,_,_,_,_,_),(_,_,_,_,_,_,_,_,_,_,_,_),(_,_,_,_,_,_,_,_,_,_,_,_),(_,_,_,_,_,_,_,_,_,_,_,_),(_,_,_,_,_,_,_,_,_,_,_,_),(_,_,_,_,_,_,_,_,_,_,_,_)] rfl (by decide) rfl) rfl rfl ?_
  refine s2 (r:=rCl) (ev_mkS [(_,_,_,_,_,_,_,_,_,_,_,_),(_,_,_,_,_,_,_,_,_,_,_,_),(_,_,_,_,_,_,_,_,_,_,_,_),(_,_,_,_,_,_,_,_,_,_,_,_),(_,_,_,_,_,_,_,_,_,_,_,_),(_,_,_,_,_,_,_,_,_,_,_,_)] rfl (by decide) rfl) rfl rfl ?_
  refine s2 (r:=rCl) (ev_mkS [(_,_,_,_,_,_,_,_,_,_,_,_),(_,_,_,_,_,_,_,_,_,_,_,_),(_,_,_,_,_,_,_,_,_,_,_,_),(_,_,_,_,_,_,_,_,_,_,_,_),(_,_,_,_,_,_,_,_,_,_,_,_),(_,_,_,_,_,_,_,_,_,_,_,_)] rfl (by decide) rfl) rfl rfl ?_
  refine s2 (r:=rRw) (ev_mkS [(_,_),(_,_),(_,_)] rfl (by decide) rfl) rfl rfl ?_
  refine s31 (pck_s_e _ (by decide +kernel)) rfl ?_
  refine s1 (ev_neq _ _ _) rfl rfl rfl ?_
  refine s4 rfl (fun g3=>?_) fun g3=>?_
  ·refine s8 ?_
   (exact absurd (by decide +kernel) g3)
  refine s2 (r:=rCl) (ev_mkS [(_,_,_,_,_,_,_,_,_,_,_,_),(_,_,_,_,_,_,_,_,_,_,_,_),(_,_,_,_,_,_,_,_,_,_,_,_),(_,_,_,_,_,_,_,_,_,_,_,_),(_,_,_,_,_,_,_,_,_,_,_,_),(_,_,_,_,_,_,_,_,_,_,_,_)] rfl (by decide) rfl) rfl rfl ?_
  refine s2 (r:=rCl) (ev_mkS [(_,_,_,_,_,_,_,_,_,_,_,_),(_,_,_,_,_,_,_,_,_,_,_,_),(_,_,_,_,_,_,_,_,_,_,_,_),(_,_,_,_,_,_,_,_,_,_,_,_),(_,_,_,_,_,_,_,_,_,_,_,_),(_,_,_,_,_,_,_,_,_,_,_,_)] rfl (by decide) rfl) rfl rfl ?_
  refine s2 (r:=rCl) (ev_mkS [(_,_,_,_,_,_,_,_,_,_,_,_),(_,_,_,_,_,_,_,_,_,_,_,_),(_,_,_,_,_,_,_,_,_,_,_,_),(_,_,_,_,_,_,_,_,_,_,_,_),(_,_,_,_,_,_,_,_,_,_,_,_),(_,_,_,_,_,_,_,_,_,_,_,_)] rfl (by decide) rfl) rfl rfl ?_
  refine s2 (r:=rRw) (ev_mkS [(_,_),(_,_),(_,_)] rfl (by decide) rfl) rfl rfl ?_
  refine s31 (pck_s_e _ (by decide +kernel)) rfl ?_
  refine s1 (ev_neq _ _ _) rfl rfl rfl ?_
  refine s4 rfl (fun g4=>?_) fun g4=>?_
  ·refine s8 ?_
   (exact absurd (by decide +kernel) g4)
  refine s2 (r:=rCl) (ev_mkS [(_,_,_,_,_,_,_,_,_,_,_,_),(_,_,_,_,_,_,_,_,_,_,_,_),(_,_,_,_,_,_,_,_,_,_,_,_),(_,_,_,_,_,_,_,_,_,_,_,_),(_,_,_,_,_,_,_,_,_,_,_,_),(_,_,_,_,_,_,_,_,_,_,_,_)] rfl (by decide) rfl) rfl rfl ?_
  refine s2 (r:=rCl) (ev_mkS [(_,_,_,_,_,_,_,_,_,_,_,_),(_,_,_,_,_,_,_,_,_,_,_,_),(_,_,_,_,_,_,_,_,_,_,_,_),(_,_,_,_,_,_,_,_,_,_,_,_),(_,_,_,_,_,_,_,_,_,_,_,_),(_,_,_,_,_,_,_,_,_,_,_,_)] rfl (by decide) rfl) rfl rfl ?_
  refine s2 (r:=rCl) (ev_mkS [(_,_,_,_,_,_,_,_,_,_,_,_),(_,_,_,_,_,_,_,_,_,_,_,_),(_,_,_,_,_,_,_,_,_,_,_,_),(_,_,_,_,_,_,_,_,_,_,_,_),(_,_,_,_,_,_,_,_,_,_,_,_),(_,_,_,_,_,_,_,_,_,_,_,_)] rfl (by decide) rfl) rfl rfl ?_
  refine s2 (r:=rRw) (ev_mkS [(_,_),(_,_),(_,_)] rfl (by decide) rfl) rfl rfl ?_
  refine s31 (pck_s_e _ (by decide +kernel)) rfl ?_
  refine s1 (ev_neq _ _ _) rfl rfl rfl ?_
  refine s4 rfl (fun g5=>?_) fun g5=>?_
  ·refine s8 ?_
   (exact absurd (by decide +kernel) g5)
  refine s2 (r:=rCl) (ev_mkS [(_,_,_,_,_,_,_,_,_,_,_,_),(_,_,_,_,_,_,_,_,_,_,_,_),(_,_,_,_,_,_,_,_,_,_,_,_),(_,_,_,_,_,_,_,_,_,_,_,_),(_,_,_,_,_,_,_,_,_,_,_,_),(_,_,_,_,_,_,_,_,_,_,_,_)] rfl (by decide) rfl) rfl rfl ?_
  refine s2 (r:=rCl) (ev_mkS [(_,_,_,_,_,_,_,_,_,_,_,_),(_,_,_,_,_,_,_,_,_,_,_,_),(_,_,_,_,_,_,_,_,_,_,_,_),(_,_,_,_,_,_,_,_,_,_,_,_),(_,_,_,_,_,_,_,_,_,_,_,_),(_,_,_,_,_,_,_,_,_,_,_,_)] rfl (by decide) rfl) rfl rfl ?_
  refine s2 (r:=rCl) (ev_mkS [(_,_,_,_,_,_,_,_,_,_,_,_),(_,_,_,_,_,_,_,_,_,_,_,_),(_,_,_,_,_,_,_,_,_,_,_,_),(_,_,_,_,_,_,_,_,_,_,_,_),(_,_,_,_,_,_,_,_,_,_,_,_),(_,_,_,_,_,_,_,_,_,_,_,_)] rfl (by decide) rfl) rfl rfl ?_
  refine s2 (r:=rRw) (ev_mkS [(_,_),(_,_),(_,_)] rfl (by decide) rfl) rfl rfl ?_
  refine s31 (pck_s_e _ (by decide +kernel)) rfl ?_
  refine s1 (ev_neq _ _ _) rfl rfl rfl ?_
  refine s4 rfl (fun g6=>?_) fun g6=>?_
  ·refine s8 ?_
   (exact absurd (by decide +kernel) g6)
  refine s2 (r:=rCl) (ev_mkS [(_,_,_,_,_,_,_,_,_,_,_,_),(_,_,_,_,_,_,_,_,_,_,_,_),(_,_,_,_,_,_,_,_,_,_,_,_),(_,_,_,_,_,_,_,_,_,_,_,_),(_,_,_,_,_,_,_,_,_,_,_,_),(_,_,_,_,_,_,_,_,_,_,_,_)] rfl (by decide) rfl) rfl rfl ?_
  refine s2 (r:=rCl) (ev_mkS [(_,_,_,_,_,_,_,_,_,_,_,_),(_,_,_,_,_,_,_,_,_,_,_,_),(_,_,_,_,_,_,_,_,_,_,_,_),(_,_,_,_,_,_,_,_,_,_,_,_),(_,_,_,_,_,_,_,_,_,_,_,_),(_,_,_,_,_,_,_,_,_,_,_,_)] rfl (by decide) rfl) rfl rfl ?_
  refine s2 (r:=rCl) (ev_mkS [(_,_,_,_,_,_,_,_,_,_,_,_),(_,_,_,_,_,_,_,_,_,_,_,_),(_,_,_,_,_,_,_,_,_,_,_,_),(_,_,_,_,_,_,_,_,_,_,_,_),(_,_,_,_,_,_,_,_,_,_,_,_),(_,_,_,_,_,_,_,_,_,_,_,_)] rfl (by decide) rfl) rfl rfl ?_
  refine s2 (r:=rRw) (ev_mkS [(_,_),(_,_),(_,_)] rfl (by decide) rfl) rfl rfl ?_
  refine s31 (pck_s_e _ (by decide +kernel)) rfl ?_
  refine s1 (ev_neq _ _ _) rfl rfl rfl ?_
  refine s4 rfl (fun g7=>?_) fun g7=>?_
  ·refine s8 ?_
   (exact absurd (by decide +kernel) g7)
  refine s2 (r:=rCl) (ev_mkS [(_,_,_,_,_,_,_,_,_,_,_,_),(_,_,_,_,_,_,_,_,_,_,_,_),(_,_,_,_,_,_,_,_,_,_,_,_),(_,_,_,_,_,_,_,_,_,_,_,_),(_,_,_,_,_,_,_,_,_,_,_,_),(_,_,_,_,_,_,_,_,_,_,_,_)] rfl (by decide) rfl) rfl rfl ?_
  refine s2 (r:=rCl) (ev_mkS [(_,_,_,_,_,_,_,_,_,_,_,_),(_,_,_,_,_,_,_,_,_,_,_,_),(_,_,_,_,_,_,_,_,_,_,_,_),(_,_,_,_,_,_,_,_,_,_,_,_),(_,_,_,_,_,_,_,_,_,_,_,_),(_,_,_,_,_,_,_,_,_,_,_,_)] rfl (by decide) rfl) rfl rfl ?_
  refine s2 (r:=rCl) (ev_mkS [(_,_,_,_,_,_,_,_,_,_,_,_),(_,_,_,_,_,_,_,_,_,_,_,_),(_,_,_,_,_,_,_,_,_,_,_,_),(_,_,_,_,_,_,_,_,_,_,_,_),(_,_,_,_,_,_,_,_,_,_,_,_),(_,_,_,_,_,_,_,_,_,_,_,_)] rfl (by decide) rfl) rfl rfl ?_
  refine s2 (r:=rRw) (ev_mkS [(_,_),(_,_),(_,_)] rfl (by decide) rfl) rfl rfl ?_
  refine s31 (pck_s_e _ (by decide +kernel)) rfl ?_
  refine s1 (ev_neq _ _ _) rfl rfl rfl ?_
  refine s4 rfl (fun g8=>?_) fun g8=>?_
  ·refine s8 ?_
   (exact absurd (by decide +kernel) g8)
  refine s2 (r:=rCl) (ev_mkS [(_,_,_,_,_,_,_,_,_,_,_,_),(_,_,_,_,_,_,_,_,_,_,_,_),(_,_,_,_,_,_,_,_,_,_,_,_),(_,_,_,_,_,_,_,_,_,_,_,_),(_,_,_,_,_,_,_,_,_,_,_,_),(_,_,_,_,_,_,_,_,_,_,_,_)] rfl (by decide) rfl) rfl rfl ?_
  refine s2 (r:=rCl) (ev_mkS [(_,_,_,_,_,_,_,_,_,_,_,_),(_,_,_,_,_,_,_,_,_,_,_,_),(_,_,_,_,_,_,_,_,_,_,_,_),(_,_,_,_,_,_,_,_,_,_,_,_),(_,_,_,_,_,_,_,_,_,_,_,_),(_,_,_,_,_,_,_,_,_,_,_,_)] rfl (by decide) rfl) rfl rfl ?_
  refine s2 (r:=rCl) (ev_mkS [(_,_,_,_,_,_,_,_,_,_,_,_),(_,_,_,_,_,_,_,_,_,_,_,_),(_,_,_,_,_,_,_,_,_,_,_,_),(_,_,_,_,_,_,_,_,_,_,_,_),(_,_,_,_,_,_,_,_,_,_,_,_),(_,_,_,_,_,_,_,_,_,_,_,_)] rfl (by decide) rfl) rfl rfl ?_
  refine s2 (r:=rRw) (ev_mkS [(_,_),(_,_),(_,_)] rfl (by decide) rfl) rfl rfl ?_
  refine s31 (pck_s_e _ (by decide +kernel)) rfl ?_
  refine s1 (ev_neq _ _ _) rfl rfl rfl ?_
  refine s4 rfl (fun g9=>?_) fun g9=>?_
  ·refine s8 ?_
   (exact absurd (by decide +kernel) g9)
  refine s2 (r:=rCl) (ev_mkS [(_,_,_,_,_,_,_,_,_,_,_,_),(_,_,_,_,_,_,_,_,_,_,_,_),(_,_,_,_,_,_,_,_,_,_,_,_),(_,_,_,_,_,_,_,_,_,_,_,_),(_,_,_,_,_,_,_,_,_,_,_,_),(_,_,_,_,_,_,_,_,_,_,_,_)] rfl (by decide) rfl) rfl rfl ?_
  refine s2 (r:=rCl) (ev_mkS [(_,_,_,_,_,_,_,_,_,_,_,_),(_,_,_,_,_,_,_,_,_,_,_,_),(_,_,_,_,_,_,_,_,_,_,_,_),(_,_,_,_,_,_,_,_,_,_,_,_),(_,_,_,_,_,_,_,_,_,_,_,_),(_,_,_,_,_,_,_,_,_,_,_,_)] rfl (by decide) rfl) rfl rfl ?_
  refine s2 (r:=rCl) (ev_mkS [(_,_,_,_,_,_,_,_,_,_,_,_),(_,_,_,_,_,_,_,_,_,_,_,_),(_,_,_,_,_,_,_,_,_,_,_,_),(_,_,_,_,_,_,_,_,_,_,_,_),(_,_,_,_,_,_,_,_,_,_,_,_),(_,_,_,_,_,_,_,_,_,_,_,_)] rfl (by decide) rfl) rfl rfl ?_
  refine s2 (r:=rRw) (ev_mkS [(_,_),(_,_),(_,_)] rfl (by decide) rfl) rfl rfl ?_
  refine s31 (pck_s_e _ (by decide +kernel)) rfl ?_
  refine s1 (ev_neq _ _ _) rfl rfl rfl ?_
  refine s4 rfl (fun g10=>?_) fun g10=>?_
  ·refine s8 ?_
   (exact absurd (by decide +kernel) g10)
  refine s7 [.bool _] rfl ?_
  first|rfl|(simp [*]; done)|(simp [*]; omega)
 ·cases hs
end Go.Proofs.YtdkdbjgkedahfaaDoor

namespace Go.Proofs.YtdkdbjgkedahfaaDoor
set_option linter.all false
open Go Go.Sx
set_option maxRecDepth 100000
set_option linter.unusedVariables false
set_option linter.unusedSimpArgs false
theorem pair_ne {a b c d:Int} (h:(!(a == c && (b == d && true)))=true) (h1:a=c) (h2:b=d):False:=by
 subst h1; subst h2; simp at h
noncomputable def U_pwl:List (FuncId × FnC):=(15,conF Tryd.prog [] works_s [.s 8])::(22,conF Tryd.prog [.a [4,13]] drss_s [.s 12])::(18,conF Tryd.prog [.s 12,.a [3,3]] wrd_s [.a [3,3],.a [3,3],.s 3])::(16,conF Tryd.prog [.s 12,.a [3,3]] lne_s [.a [3,3],.a [3,3],.s 3])::L0
theorem U_pwl_ok {G:Nat→Option Obj} (hst:StartOk Tryd.prog G gl H0 n0):ConsOk Tryd.prog G gl U_pwl:=(.cons (works_c hst) (.cons (drss_c hst) (.cons (wrd_c hst) (.cons (lne_c hst) .nil))))
def pwl_s:List U→Option (Nat × List U)
 | [u_rows,.int .i64 cols,.int .i64 a,.int .i64 b,.int .i64 st,.int .i64 en,.int .i64 i,.int .i64 fr,.int .i64 fc,.int .i64 tr,.int .i64 tc]=>(decS rRw u_rows).bind fun rows=>if inK rows a∧cols=colN rows∧jK rows a=a∧mK rows a+1=b∧a≤i∧i≤b∧fr=a / cols∧fc=a % cols∧tr=(b - 1) / cols∧tc=(b - 1) % cols+1 then some (0,[encS rRw rows,.int .i64 cols,.int .i64 a,.int .i64 b,.int .i64 st,.int .i64 en]) else none
 | _=>none
theorem pwl_s_e (rows:(Option (List ((Option (List (Int × Int × Int × Int × Int × Int × Int × Int × Int × Int × Int × Int))) × Bool)))) (cols:Int) (a:Int) (b:Int) (st:Int) (en:Int) (i:Int) (fr:Int) (fc:Int) (tr:Int) (tc:Int) (hc:inK rows a∧cols=colN rows∧jK rows a=a∧mK rows a+1=b∧a≤i∧i≤b∧fr=a / cols∧fc=a % cols∧tr=(b - 1) / cols∧tc=(b - 1) % cols+1):pwl_s [encS rRw rows,.int .i64 cols,.int .i64 a,.int .i64 b,.int .i64 st,.int .i64 en,.int .i64 i,.int .i64 fr,.int .i64 fc,.int .i64 tr,.int .i64 tc]=some (0,[encS rRw rows,.int .i64 cols,.int .i64 a,.int .i64 b,.int .i64 st,.int .i64 en]):=by
 simp only [pwl_s,decS_enc,Option.bind_some]
 exact if_pos hc
def pwl_D:LoopD:=⟨[(5,dat 11 0 12),(6,h 1 3),(9,.pointer (some ⟨7,0,none⟩)),(10,.pointer (some ⟨8,0,none⟩)),(15,h 2 3),(16,h 3 3),(17,h 4 3),(18,h 5 3),(19,h 6 3)],[(7,.cells 29 [h 7 3,h 8 3]),(8,.cells 29 [h 9 3,h 10 3]),(11,.frz)],11,[⟨.exit 0,[(5,dat 12 0 12),(6,h 1 3),(15,h 2 3),(16,h 3 3),(17,h 4 3),(18,h 5 3)],[(12,.frz)],6⟩]⟩
noncomputable def pwl_B:Code:=(Tryd.f6.body).getD .skip
noncomputable def pwl_x:Code:=match codeAt [true,true,true,true,true,true,true,true,true,true,true,false,true,false] pwl_B with|some (.loop x)=>x|_=>.skip
theorem pwl_b:Tryd.f6.body=some pwl_B:=rfl
theorem pwl_p:codeAt [true,true,true,true,true,true,true,true,true,true,true,false,true,false] pwl_B=some (.loop pwl_x):=by kernel_rfl
def pwl_t:Tr:=.lt 8 (.bin .lss) [h 6 3,h 3 3] <| .br 11 (.lt 8 (.inbs 2) [.int .i64 (0),h 0 12] <| .br 12 (.dt 22 (.get 2 0) [h 0 12,.int .i64 (0)] <| .lt 3 (.len) [h 13 22] <| .lt 3 (.bin .quo) [h 6 3,h 14 3] <| .lt 3 (.bin .rem) [h 6 3,h 14 3] <| .fn wrd_s [h 0 12,h 15 3,h 16 3] 5 <| .lt 8 (.bin .neq) [h 21 3,.int .i64 (0)] <| .br 22 (.no) (.lt 8 (.eqs) [h 17 3,h 7 3,h 18 3,h 8 3] <| .lt 8 (.un .not) [h 23 8] <| .br 24 (.no) (.lt 8 (.eqs) [h 19 3,h 9 3,h 20 3,h 10 3] <| .lt 8 (.un .not) [h 25 8] <| .br 26 (.no) (.lt 3 (.bin .add) [h 6 3,.int .i64 (1)] <| .ret [.int .i64 (-1),h 0 12,h 1 3,h 2 3,h 3 3,h 4 3,h 5 3,h 27 3,h 7 3,h 8 3,h 9 3,h 10 3])))) (.no)) (.ret [.int .i64 (0),h 0 12,h 1 3,h 2 3,h 3 3,h 4 3,h 5 3])
def pwl_m:List U→Nat
 | [u_rows,.int .i64 cols,.int .i64 a,.int .i64 b,.int .i64 st,.int .i64 en,.int .i64 i,.int .i64 fr,.int .i64 fc,.int .i64 tr,.int .i64 tc]=>(match decS rRw u_rows with|some rows=>(b - i).toNat|none=>0)
 | _=>0
theorem pwl_me (rows:(Option (List ((Option (List (Int × Int × Int × Int × Int × Int × Int × Int × Int × Int × Int × Int))) × Bool)))) (cols:Int) (a:Int) (b:Int) (st:Int) (en:Int) (i:Int) (fr:Int) (fc:Int) (tr:Int) (tc:Int):pwl_m [encS rRw rows,.int .i64 cols,.int .i64 a,.int .i64 b,.int .i64 st,.int .i64 en,.int .i64 i,.int .i64 fr,.int .i64 fc,.int .i64 tr,.int .i64 tc]=(b - i).toNat:=by
 simp only [pwl_m,decS_enc]
theorem pwl_c {G:Nat→Option Obj} (hst:StartOk Tryd.prog G gl H0 n0):∀ (E:Nat→U) (base:Nat),@CodeOk ⟨E,G⟩ Tryd.prog base gl Tryd.f6.ntmps pwl_x (loopF Tryd.prog gl n0 13 pwl_D pwl_s):=by
 refine loop_ok (C:=cx U_pwl P_drs) (dep:=60) (f:=6) (n0:=n0) (nB:=13) (H0:=H0) pwl_m pwl_t (cxg (U_pwl_ok hst) (P_drs_ok hst)) hst Tryd.func6 pwl_b pwl_p (by kernel_rfl) (by kernel_rfl) (by kernel_rfl) ?_
 intro us d outs hs
 have hs0:=hs
 unfold pwl_s at hs
 split at hs
 ·skip
  rename_i u_rows cols a b st en i fr fc tr tc
  have hq_rows:=Option.bind_eq_some_iff.1 hs
  clear hs
  obtain ⟨rows,hd_rows,hs⟩:=hq_rows
  replace hd_rows:=decS_eq hd_rows
  subst hd_rows
  split at hs
  ·rename_i hc
   clear hs hs0
   have hz:=nums hc.1 hc.2.1
   have hy:=numsW hc.1 hc.2.1
   have qd:=chk_or rows
   refine ⟨rfl,?_⟩
   unfold pwl_t
   refine s0 (.cons 10 _ (.cons 9 _ (.cons 8 _ (.cons 7 _ (.cons 6 _ (.cons 5 _ (.cons 4 _ (.cons 3 _ (.cons 2 _ (.cons 1 _ (.cons 0 _ (.nil)))))))))))) rfl (by simp [Ev.ok,Ev.len]) ?_
   refine s1 (ev_lss _ _ _) rfl rfl rfl ?_
   refine s5 rfl (fun g0=>?_) fun g0=>?_
   ·refine s7 [.int .i64 _,encS rRw _,.int .i64 _,.int .i64 _,.int .i64 _,.int .i64 _,.int .i64 _] rfl ?_
    refine leaf_exit (d:=0) ?_
    rw [pwl_s_e _ _ _ _ _ _ _ _ _ _ _ hc]
   have z:=word_same (i:=i) hc.1 (by omega) (by omega); have hx:=nums z.1 qd.2.symm
   refine s1 (ev_inbsS rfl) rfl rfl rfl ?_
   refine s5 rfl (fun g1=>?_) fun g1=>?_
   ·refine s8 ?_
    first|omega|exact pair_ne (by assumption) (by rw [z.2.1,hc.2.2.1,hc.2.2.2.2.2.2.1,hc.2.1,qd.2]) (by rw [z.2.1,hc.2.2.1,hc.2.2.2.2.2.2.2.1,hc.2.1,qd.2])|exact pair_ne (by assumption) (by rw [z.2.2,show mK rows a=b - 1 by omega,hc.2.2.2.2.2.2.2.2.1,hc.2.1,qd.2]) (by rw [z.2.2,show mK rows a=b - 1 by omega,hc.2.2.2.2.2.2.2.2.2,hc.2.1,qd.2])|(trace_state; done)
   refine s2 (r:=rCl) (ev_getS rfl (by omega) (by omega) rfl) rfl rfl ?_
   refine s1 (ev_lenS _ _) rfl rfl rfl ?_
   first|refine s1 (ev_quoW (by omega) (by omega) (wrap64 (by omega) (by omega))) rfl rfl rfl ?_|refine s1 (ev_quo _ _ _ (by omega)) rfl rfl rfl ?_
   first|refine s1 (ev_remW (by omega) (by omega)) rfl rfl rfl ?_|refine s1 (ev_rem _ _ _ (by omega)) rfl rfl rfl ?_
   refine s3 (wrd_at z.1 (by omega)) rfl ?_
   show Tr.sav _ _ (.cons 21 _ (.cons 20 _ (.cons 19 _ (.cons 18 _ (.cons 17 _ _)))))
   refine s1 (ev_neq _ _ _) rfl rfl rfl ?_
   refine s4 rfl (fun g2=>?_) fun g2=>?_
   ·refine s8 ?_
    first|omega|exact pair_ne (by assumption) (by rw [z.2.1,hc.2.2.1,hc.2.2.2.2.2.2.1,hc.2.1,qd.2]) (by rw [z.2.1,hc.2.2.1,hc.2.2.2.2.2.2.2.1,hc.2.1,qd.2])|exact pair_ne (by assumption) (by rw [z.2.2,show mK rows a=b - 1 by omega,hc.2.2.2.2.2.2.2.2.1,hc.2.1,qd.2]) (by rw [z.2.2,show mK rows a=b - 1 by omega,hc.2.2.2.2.2.2.2.2.2,hc.2.1,qd.2])|(trace_state; done)
   refine s1 rfl rfl rfl rfl ?_
   first|refine s1 (ev_notD _) rfl rfl rfl ?_|refine s1 (ev_not _) rfl rfl rfl ?_
   first|refine s4 rfl (fun g3=>?_) (fun g3=>?_)|refine s4B rfl (fun g3=>?_) (fun g3=>?_)
   ·refine s8 ?_
    first|omega|exact pair_ne (by assumption) (by rw [z.2.1,hc.2.2.1,hc.2.2.2.2.2.2.1,hc.2.1,qd.2]) (by rw [z.2.1,hc.2.2.1,hc.2.2.2.2.2.2.2.1,hc.2.1,qd.2])|exact pair_ne (by assumption) (by rw [z.2.2,show mK rows a=b - 1 by omega,hc.2.2.2.2.2.2.2.2.1,hc.2.1,qd.2]) (by rw [z.2.2,show mK rows a=b - 1 by omega,hc.2.2.2.2.2.2.2.2.2,hc.2.1,qd.2])|(trace_state; done)
   refine s1 rfl rfl rfl rfl ?_
   first|refine s1 (ev_notD _) rfl rfl rfl ?_|refine s1 (ev_not _) rfl rfl rfl ?_
   first|refine s4 rfl (fun g4=>?_) (fun g4=>?_)|refine s4B rfl (fun g4=>?_) (fun g4=>?_)
   ·refine s8 ?_
    first|omega|exact pair_ne (by assumption) (by rw [z.2.1,hc.2.2.1,hc.2.2.2.2.2.2.1,hc.2.1,qd.2]) (by rw [z.2.1,hc.2.2.1,hc.2.2.2.2.2.2.2.1,hc.2.1,qd.2])|exact pair_ne (by assumption) (by rw [z.2.2,show mK rows a=b - 1 by omega,hc.2.2.2.2.2.2.2.2.1,hc.2.1,qd.2]) (by rw [z.2.2,show mK rows a=b - 1 by omega,hc.2.2.2.2.2.2.2.2.2,hc.2.1,qd.2])|(trace_state; done)
   first|refine s1 (ev_addW (wrap64 (by omega) (by omega))) rfl rfl rfl ?_|refine s1 (ev_add _ _ _) rfl rfl rfl ?_
   refine s7 [.int .i64 _,encS rRw _,.int .i64 _,.int .i64 _,.int .i64 _,.int .i64 _,.int .i64 _,.int .i64 _,.int .i64 _,.int .i64 _,.int .i64 _,.int .i64 _] rfl ?_
   refine leaf_back ?_ ?_
   ·rw [pwl_s_e _ _ _ _ _ _ _ _ _ _ _ hc]; exact pwl_s_e _ _ _ _ _ _ _ _ _ _ _ ⟨hc.1,hc.2.1,hc.2.2.1,hc.2.2.2.1,by omega,by omega,hc.2.2.2.2.2.2⟩
   ·rw [pwl_me,pwl_me]; omega
  ·cases hs
 ·cases hs
noncomputable def P_pwl:List LpE:=(6,([true,true,true,true,true,true,true,true,true,true,true,false,true,false],loopF Tryd.prog gl n0 13 pwl_D pwl_s))::P_drs
theorem P_pwl_ok {G:Nat→Option Obj} (hst:StartOk Tryd.prog G gl H0 n0):LpsOk Tryd.prog G gl P_pwl:=.cons Tryd.func6 pwl_b pwl_p (pwl_c hst) (P_drs_ok hst)
end Go.Proofs.YtdkdbjgkedahfaaDoor

namespace Go.Proofs.YtdkdbjgkedahfaaDoor
set_option linter.all false
open Go Go.Sx
set_option maxRecDepth 100000
set_option linter.unusedVariables false
set_option linter.unusedSimpArgs false
theorem pwl_at {rows:Option (List Row)} {K W a b st en fr fc tr tc:Int} (h:inK rows K) (hW:W=colN rows) (ha:a=jK rows K) (hb:b=mK rows K+1) (e1:fr=jK rows K / W) (e2:fc=jK rows K % W) (e3:tr=mK rows K / W) (e4:tc=mK rows K % W+1):pwl_s [encS rRw rows,.int .i64 W,.int .i64 a,.int .i64 b,.int .i64 st,.int .i64 en,.int .i64 a,.int .i64 fr,.int .i64 fc,.int .i64 tr,.int .i64 tc]=some (0,[encS rRw rows,.int .i64 W,.int .i64 a,.int .i64 b,.int .i64 st,.int .i64 en]):=by
 have r:=(run_at h).1
 have rb:=r.b
 have rc:=r.c
 obtain ⟨h1,h2,h3⟩:=word_same (i:=jK rows K) h (Int.le_refl _) (by omega)
 subst ha; subst hb; subst e1; subst e2; subst e3; subst e4
 refine pwl_s_e _ _ _ _ _ _ _ _ _ _ _ ⟨h1,hW,h2,by rw [h3],Int.le_refl _,by omega,rfl,rfl,?_,?_⟩ <;> rw [show mK rows K+1 - 1=mK rows K by omega]
theorem word_ends {rows:Option (List Row)} {K:Int} (h:inK rows K):inK rows (jK rows K)∧inK rows (mK rows K):=by
 have r:=(run_at h).1
 have rb:=r.b
 have rc:=r.c
 exact ⟨(word_same h (Int.le_refl _) (by omega)).1,(word_same h (by omega) (Int.le_refl _)).1⟩
theorem lo_is {rows:Option (List Row)} {K W:Int} (hW:W=colN rows):loK rows K=fstS (el rows) (K / W) * W:=by subst hW; rfl
theorem hi_is {rows:Option (List Row)} {K W:Int} (hW:W=colN rows):hiK rows K=lstS (el rows) (K / W) * W+W:=by subst hW; unfold hiK; rw [Int.add_mul,Int.one_mul]
noncomputable def U_pw:List (FuncId × FnC):=(15,conF Tryd.prog [] works_s [.s 8])::(22,conF Tryd.prog [.a [4,13]] drss_s [.s 12])::(18,conF Tryd.prog [.s 12,.a [3,3]] wrd_s [.a [3,3],.a [3,3],.s 3])::(16,conF Tryd.prog [.s 12,.a [3,3]] lne_s [.a [3,3],.a [3,3],.s 3])::L0
theorem U_pw_ok {G:Nat→Option Obj} (hst:StartOk Tryd.prog G gl H0 n0):ConsOk Tryd.prog G gl U_pw:=(.cons (works_c hst) (.cons (drss_c hst) (.cons (wrd_c hst) (.cons (lne_c hst) .nil))))
def pw_s:List U→Option (Nat × List U)
 | [.int .u8 dc,u_l,.int .u16 n]=>(decS rDr u_l).bind fun l=>if 0≤dc∧dc≤255∧okD l∧0≤n∧n≤65535 then some (0,[.bool (true)]) else none
 | _=>none
theorem pw_s_e (dc:Int) (l:(Option (List (Int × (Option (List Int)) × Bool)))) (n:Int) (hc:0≤dc∧dc≤255∧okD l∧0≤n∧n≤65535):pw_s [.int .u8 dc,encS rDr l,.int .u16 n]=some (0,[.bool (true)]):=by
 simp only [pw_s,decS_enc,Option.bind_some]
 exact if_pos hc
def pw_t:Tr:=.fn works_s [] 1 <| .lt 8 (.un .not) [h 3 8] <| .br 4 (.ret [.bool false]) (.fn drss_s [h 0 4,h 1 13] 1 <| .lt 8 (.inbs 2) [.int .i64 (0),h 5 12] <| .br 6 (.dt 22 (.get 2 0) [h 5 12,.int .i64 (0)] <| .lt 3 (.len) [h 7 22] <| .lt 3 (.conv .i64) [h 2 5] <| .lt 3 (.len) [h 5 12] <| .lt 3 (.bin .mul) [h 10 3,h 8 3] <| .lt 3 (.bin .rem) [h 9 3,h 11 3] <| .lt 8 (.inbs 2) [.int .i64 (0),h 5 12] <| .br 13 (.dt 22 (.get 2 0) [h 5 12,.int .i64 (0)] <| .lt 3 (.len) [h 14 22] <| .lt 3 (.bin .quo) [h 12 3,h 15 3] <| .lt 3 (.bin .rem) [h 12 3,h 15 3] <| .fn wrd_s [h 5 12,h 16 3,h 17 3] 5 <| .fn lne_s [h 5 12,h 16 3,h 17 3] 5 <| .lt 3 (.bin .mul) [h 18 3,h 8 3] <| .lt 3 (.bin .add) [h 28 3,h 19 3] <| .lt 3 (.bin .mul) [h 20 3,h 8 3] <| .lt 3 (.bin .add) [h 30 3,h 21 3] <| .lt 3 (.bin .mul) [h 23 3,h 8 3] <| .lt 3 (.bin .add) [h 32 3,h 24 3] <| .lt 3 (.bin .mul) [h 25 3,h 8 3] <| .lt 3 (.bin .add) [h 34 3,h 26 3] <| .lt 8 (.bin .neq) [h 22 3,.int .i64 (0)] <| .br 36 (.ret [.bool false]) (.lt 8 (.bin .neq) [h 27 3,.int .i64 (0)] <| .br 37 (.ret [.bool false]) (.lt 8 (.bin .gtr) [h 29 3,h 12 3] <| .br 38 (.ret [.bool false]) (.lt 8 (.bin .leq) [h 31 3,h 12 3] <| .br 39 (.ret [.bool false]) (.lt 8 (.bin .lss) [h 29 3,h 33 3] <| .br 40 (.ret [.bool false]) (.lt 8 (.bin .gtr) [h 31 3,h 35 3] <| .br 41 (.ret [.bool false]) (.lt 8 (.bin .lss) [h 21 3,.int .i64 (1)] <| .br 42 (.ret [.bool false]) (.fn pwl_s [h 5 12,h 8 3,h 29 3,h 31 3,h 33 3,h 35 3,h 29 3,h 18 3,h 19 3,h 20 3,h 21 3] 6 <| .lt 8 (.bin .gtr) [h 45 3,h 47 3] <| .br 49 (.lt 3 (.bin .sub) [h 45 3,.int .i64 (1)] <| .lt 8 (.inbs 2) [.int .i64 (0),h 43 12] <| .br 51 (.dt 22 (.get 2 0) [h 43 12,.int .i64 (0)] <| .lt 3 (.len) [h 52 22] <| .lt 3 (.bin .quo) [h 50 3,h 53 3] <| .lt 3 (.bin .rem) [h 50 3,h 53 3] <| .fn wrd_s [h 43 12,h 54 3,h 55 3] 5 <| .lt 8 (.bin .neq) [h 60 3,.int .i64 (0)] <| .br 61 (.ret [.bool false]) (.lt 3 (.bin .mul) [h 58 3,h 44 3] <| .lt 3 (.bin .add) [h 62 3,h 59 3] <| .lt 8 (.bin .neq) [h 63 3,h 45 3] <| .br 64 (.ret [.bool false]) (.lt 8 (.bin .lss) [h 46 3,h 48 3] <| .br 65 (.lt 8 (.inbs 2) [.int .i64 (0),h 43 12] <| .br 66 (.dt 22 (.get 2 0) [h 43 12,.int .i64 (0)] <| .lt 3 (.len) [h 67 22] <| .lt 3 (.bin .quo) [h 46 3,h 68 3] <| .lt 3 (.bin .rem) [h 46 3,h 68 3] <| .fn wrd_s [h 43 12,h 69 3,h 70 3] 5 <| .lt 8 (.bin .neq) [h 75 3,.int .i64 (0)] <| .br 76 (.ret [.bool false]) (.lt 3 (.bin .mul) [h 71 3,h 44 3] <| .lt 3 (.bin .add) [h 77 3,h 72 3] <| .lt 8 (.bin .neq) [h 78 3,h 46 3] <| .br 79 (.ret [.bool false]) (.ret [.bool true]))) (.no)) (.ret [.bool true])))) (.no)) (.lt 8 (.bin .lss) [h 46 3,h 48 3] <| .br 50 (.lt 8 (.inbs 2) [.int .i64 (0),h 43 12] <| .br 51 (.dt 22 (.get 2 0) [h 43 12,.int .i64 (0)] <| .lt 3 (.len) [h 52 22] <| .lt 3 (.bin .quo) [h 46 3,h 53 3] <| .lt 3 (.bin .rem) [h 46 3,h 53 3] <| .fn wrd_s [h 43 12,h 54 3,h 55 3] 5 <| .lt 8 (.bin .neq) [h 60 3,.int .i64 (0)] <| .br 61 (.ret [.bool false]) (.lt 3 (.bin .mul) [h 56 3,h 44 3] <| .lt 3 (.bin .add) [h 62 3,h 57 3] <| .lt 8 (.bin .neq) [h 63 3,h 46 3] <| .br 64 (.ret [.bool false]) (.ret [.bool true]))) (.no)) (.ret [.bool true])))))))))) (.no)) (.no))
theorem pw_c {G:Nat→Option Obj} (hst:StartOk Tryd.prog G gl H0 n0):ConOk Tryd.prog G 6 [.a [4,13],.s 5] pw_s [.s 8]:=by
 refine con_of_tree (C:=cx U_pw P_pwl) (d:=60) pw_t (cxg (U_pw_ok hst) (P_pwl_ok hst)) hst ⟨Tryd.f6,_,Tryd.func6,rfl⟩ (by kernel_rfl) (by kernel_rfl) ?_
 intro us outs hs
 unfold pw_s at hs
 split at hs
 ·skip
  rename_i dc u_l n
  have hq_l:=Option.bind_eq_some_iff.1 hs
  clear hs
  obtain ⟨l,hd_l,hs⟩:=hq_l
  replace hd_l:=decS_eq hd_l
  subst hd_l
  split at hs
  ·rename_i hc
   cases hs
   have hv:=rowsD_ok hc.2.2.1 hc.1 hc.2.1
   have qd:=chk_or (rowsD dc l)
   unfold pw_t
   refine s0 (.cons 2 _ (.cons 1 _ (.cons 0 _ (.nil)))) rfl (by simp [Ev.ok,Ev.len]) ?_
   refine s31 works_s_e rfl ?_
   first|refine s1 (ev_notD _) rfl rfl rfl ?_|refine s1 (ev_not _) rfl rfl rfl ?_
   first|refine s4 rfl (fun g0=>?_) (fun g0=>?_)|refine s4B rfl (fun g0=>?_) (fun g0=>?_)
   ·refine s7 [.bool _] rfl ?_
    first|rfl|(cases g0; done)|(exfalso; omega)|(trace_state; done)
   refine s31 (drss_s_e _ _ ⟨hc.1,hc.2.1,hc.2.2.1⟩) rfl ?_
   refine s1 (ev_inbsS rfl) rfl rfl rfl ?_
   refine s5 rfl (fun g1=>?_) fun g1=>?_
   ·refine s8 ?_
    first|omega|(trace_state; done)
   have hi:inK (rowsD dc l) (n % (((el (rowsD dc l)).length:Int) * ((el ((el (rowsD dc l)).getD (0:Int).toNat default).1).length:Int))):=in_mod hv.1 hv.2.1 qd.2.symm (by omega); have hn:=nums hi qd.2.symm; have hw:=numsW hi qd.2.symm; have wl:=lo_is (K:=(n % (((el (rowsD dc l)).length:Int) * ((el ((el (rowsD dc l)).getD (0:Int).toNat default).1).length:Int)))) qd.2.symm; have wh:=hi_is (K:=(n % (((el (rowsD dc l)).length:Int) * ((el ((el (rowsD dc l)).getD (0:Int).toNat default).1).length:Int)))) qd.2.symm; have wj:=(word_ends hi).1; have wm:=(word_ends hi).2; have nj:=nums wj qd.2.symm; have nm:=nums wm qd.2.symm
   refine s2 (r:=rCl) (ev_getS rfl (by omega) (by omega) rfl) rfl rfl ?_
   refine s1 (ev_lenS _ _) rfl rfl rfl ?_
   first|refine s1 (ev_convW (wrap64 (by omega) (by omega))) rfl rfl rfl ?_|refine s1 (ev_conv _ _ _) rfl rfl rfl ?_
   refine s1 (ev_lenS _ _) rfl rfl rfl ?_
   first|refine s1 (ev_mulW (wrap64 (by omega) (by omega))) rfl rfl rfl ?_|refine s1 (ev_mul _ _ _) rfl rfl rfl ?_
   first|refine s1 (ev_remW (by omega) (by omega)) rfl rfl rfl ?_|refine s1 (ev_rem _ _ _ (by omega)) rfl rfl rfl ?_
   refine s1 (ev_inbsS rfl) rfl rfl rfl ?_
   refine s5 rfl (fun g2=>?_) fun g2=>?_
   ·refine s8 ?_
    first|omega|(trace_state; done)
   refine s2 (r:=rCl) (ev_getS rfl (by omega) (by omega) rfl) rfl rfl ?_
   refine s1 (ev_lenS _ _) rfl rfl rfl ?_
   first|refine s1 (ev_quoW (by omega) (by omega) (wrap64 (by omega) (by omega))) rfl rfl rfl ?_|refine s1 (ev_quo _ _ _ (by omega)) rfl rfl rfl ?_
   first|refine s1 (ev_remW (by omega) (by omega)) rfl rfl rfl ?_|refine s1 (ev_rem _ _ _ (by omega)) rfl rfl rfl ?_
   refine s3 (wrd_at hi qd.2.symm) rfl ?_
   show Tr.sav _ _ (.cons 22 _ (.cons 21 _ (.cons 20 _ (.cons 19 _ (.cons 18 _ _)))))
   refine s3 (lne_at hi qd.2.symm) rfl ?_
   show Tr.sav _ _ (.cons 27 _ (.cons 26 _ (.cons 25 _ (.cons 24 _ (.cons 23 _ _)))))
   first|refine s1 (ev_mulW (wrap64 (by omega) (by omega))) rfl rfl rfl ?_|refine s1 (ev_mul _ _ _) rfl rfl rfl ?_
   first|refine s1 (ev_addW (wrap64 (by omega) (by omega))) rfl rfl rfl ?_|refine s1 (ev_add _ _ _) rfl rfl rfl ?_
   first|refine s1 (ev_mulW (wrap64 (by omega) (by omega))) rfl rfl rfl ?_|refine s1 (ev_mul _ _ _) rfl rfl rfl ?_
   first|refine s1 (ev_addW (wrap64 (by omega) (by omega))) rfl rfl rfl ?_|refine s1 (ev_add _ _ _) rfl rfl rfl ?_
   first|refine s1 (ev_mulW (wrap64 (by omega) (by omega))) rfl rfl rfl ?_|refine s1 (ev_mul _ _ _) rfl rfl rfl ?_
   first|refine s1 (ev_addW (wrap64 (by omega) (by omega))) rfl rfl rfl ?_|refine s1 (ev_add _ _ _) rfl rfl rfl ?_
   first|refine s1 (ev_mulW (wrap64 (by omega) (by omega))) rfl rfl rfl ?_|refine s1 (ev_mul _ _ _) rfl rfl rfl ?_
   first|refine s1 (ev_addW (wrap64 (by omega) (by omega))) rfl rfl rfl ?_|refine s1 (ev_add _ _ _) rfl rfl rfl ?_
   refine s1 (ev_neq _ _ _) rfl rfl rfl ?_
   refine s4 rfl (fun g3=>?_) fun g3=>?_
   ·refine s7 [.bool _] rfl ?_
    first|rfl|(cases g0; done)|(exfalso; omega)|(trace_state; done)
   refine s1 (ev_neq _ _ _) rfl rfl rfl ?_
   refine s4 rfl (fun g4=>?_) fun g4=>?_
   ·refine s7 [.bool _] rfl ?_
    first|rfl|(cases g0; done)|(exfalso; omega)|(trace_state; done)
   refine s1 (ev_gtr _ _ _) rfl rfl rfl ?_
   refine s4 rfl (fun g5=>?_) fun g5=>?_
   ·refine s7 [.bool _] rfl ?_
    first|rfl|(cases g0; done)|(exfalso; omega)|(trace_state; done)
   refine s1 (ev_leq _ _ _) rfl rfl rfl ?_
   refine s4 rfl (fun g6=>?_) fun g6=>?_
   ·refine s7 [.bool _] rfl ?_
    first|rfl|(cases g0; done)|(exfalso; omega)|(trace_state; done)
   refine s1 (ev_lss _ _ _) rfl rfl rfl ?_
   refine s4 rfl (fun g7=>?_) fun g7=>?_
   ·refine s7 [.bool _] rfl ?_
    first|rfl|(cases g0; done)|(exfalso; omega)|(trace_state; done)
   refine s1 (ev_gtr _ _ _) rfl rfl rfl ?_
   refine s4 rfl (fun g8=>?_) fun g8=>?_
   ·refine s7 [.bool _] rfl ?_
    first|rfl|(cases g0; done)|(exfalso; omega)|(trace_state; done)
   refine s1 (ev_lss _ _ _) rfl rfl rfl ?_
   refine s4 rfl (fun g9=>?_) fun g9=>?_
   ·refine s7 [.bool _] rfl ?_
    first|rfl|(cases g0; done)|(exfalso; omega)|(trace_state; done)
   refine s3 (pwl_at hi qd.2.symm (by omega) (by omega) rfl rfl rfl rfl) rfl ?_
   show Tr.sav _ _ (.cons 48 _ (.cons 47 _ (.cons 46 _ (.cons 45 _ (.cons 44 _ (.cons 43 _ _))))))
   refine s1 (ev_gtr _ _ _) rfl rfl rfl ?_
   refine s4 rfl (fun g10=>?_) fun g10=>?_
   ·have zl:=word_left hi (by omega); rw [← nj.2.2.2.2.2.2.2.1] at zl; have xl:=nums zl.1 qd.2.symm; have xm:=nums (word_ends zl.1).2 qd.2.symm
    first|refine s1 (ev_subW (wrap64 (by omega) (by omega))) rfl rfl rfl ?_|refine s1 (ev_sub _ _ _) rfl rfl rfl ?_
    refine s1 (ev_inbsS rfl) rfl rfl rfl ?_
    refine s5 rfl (fun g11=>?_) fun g11=>?_
    ·refine s8 ?_
     first|omega|(trace_state; done)
    refine s2 (r:=rCl) (ev_getS rfl (by omega) (by omega) rfl) rfl rfl ?_
    refine s1 (ev_lenS _ _) rfl rfl rfl ?_
    first|refine s1 (ev_quoW (by omega) (by omega) (wrap64 (by omega) (by omega))) rfl rfl rfl ?_|refine s1 (ev_quo _ _ _ (by omega)) rfl rfl rfl ?_
    first|refine s1 (ev_remW (by omega) (by omega)) rfl rfl rfl ?_|refine s1 (ev_rem _ _ _ (by omega)) rfl rfl rfl ?_
    refine s3 (wrd_at zl.1 qd.2.symm) rfl ?_
    show Tr.sav _ _ (.cons 60 _ (.cons 59 _ (.cons 58 _ (.cons 57 _ (.cons 56 _ _)))))
    refine s1 (ev_neq _ _ _) rfl rfl rfl ?_
    refine s4 rfl (fun g12=>?_) fun g12=>?_
    ·refine s7 [.bool _] rfl ?_
     first|rfl|(cases g0; done)|(exfalso; omega)|(trace_state; done)
    first|refine s1 (ev_mulW (wrap64 (by omega) (by omega))) rfl rfl rfl ?_|refine s1 (ev_mul _ _ _) rfl rfl rfl ?_
    first|refine s1 (ev_addW (wrap64 (by omega) (by omega))) rfl rfl rfl ?_|refine s1 (ev_add _ _ _) rfl rfl rfl ?_
    refine s1 (ev_neq _ _ _) rfl rfl rfl ?_
    refine s4 rfl (fun g13=>?_) fun g13=>?_
    ·refine s7 [.bool _] rfl ?_
     first|rfl|(cases g0; done)|(exfalso; omega)|(trace_state; done)
    refine s1 (ev_lss _ _ _) rfl rfl rfl ?_
    refine s5 rfl (fun g14=>?_) fun g14=>?_
    ·refine s7 [.bool _] rfl ?_
     first|rfl|(cases g0; done)|(exfalso; omega)|(trace_state; done)
    have zr:=word_right hi (by omega); have eb:mK (rowsD dc l) (n % (((el (rowsD dc l)).length:Int) * ((el ((el (rowsD dc l)).getD (0:Int).toNat default).1).length:Int))) / ((el ((el (rowsD dc l)).getD (0:Int).toNat default).1).length:Int) * ((el ((el (rowsD dc l)).getD (0:Int).toNat default).1).length:Int)+(mK (rowsD dc l) (n % (((el (rowsD dc l)).length:Int) * ((el ((el (rowsD dc l)).getD (0:Int).toNat default).1).length:Int))) % ((el ((el (rowsD dc l)).getD (0:Int).toNat default).1).length:Int)+1)=mK (rowsD dc l) (n % (((el (rowsD dc l)).length:Int) * ((el ((el (rowsD dc l)).getD (0:Int).toNat default).1).length:Int)))+1:=(by omega); rw [← eb] at zr; have xr:=nums zr.1 qd.2.symm; have xj:=nums (word_ends zr.1).1 qd.2.symm
    refine s1 (ev_inbsS rfl) rfl rfl rfl ?_
    refine s5 rfl (fun g15=>?_) fun g15=>?_
    ·refine s8 ?_
     first|omega|(trace_state; done)
    refine s2 (r:=rCl) (ev_getS rfl (by omega) (by omega) rfl) rfl rfl ?_
    refine s1 (ev_lenS _ _) rfl rfl rfl ?_
    first|refine s1 (ev_quoW (by omega) (by omega) (wrap64 (by omega) (by omega))) rfl rfl rfl ?_|refine s1 (ev_quo _ _ _ (by omega)) rfl rfl rfl ?_
    first|refine s1 (ev_remW (by omega) (by omega)) rfl rfl rfl ?_|refine s1 (ev_rem _ _ _ (by omega)) rfl rfl rfl ?_
    refine s3 (wrd_at zr.1 qd.2.symm) rfl ?_
    show Tr.sav _ _ (.cons 75 _ (.cons 74 _ (.cons 73 _ (.cons 72 _ (.cons 71 _ _)))))
    refine s1 (ev_neq _ _ _) rfl rfl rfl ?_
    refine s4 rfl (fun g16=>?_) fun g16=>?_
    ·refine s7 [.bool _] rfl ?_
     first|rfl|(cases g0; done)|(exfalso; omega)|(trace_state; done)
    first|refine s1 (ev_mulW (wrap64 (by omega) (by omega))) rfl rfl rfl ?_|refine s1 (ev_mul _ _ _) rfl rfl rfl ?_
    first|refine s1 (ev_addW (wrap64 (by omega) (by omega))) rfl rfl rfl ?_|refine s1 (ev_add _ _ _) rfl rfl rfl ?_
    refine s1 (ev_neq _ _ _) rfl rfl rfl ?_
    refine s4 rfl (fun g17=>?_) fun g17=>?_
    ·refine s7 [.bool _] rfl ?_
     first|rfl|(cases g0; done)|(exfalso; omega)|(trace_state; done)
    refine s7 [.bool _] rfl ?_
    first|rfl|(cases g0; done)|(exfalso; omega)|(trace_state; done)
   refine s1 (ev_lss _ _ _) rfl rfl rfl ?_
   refine s5 rfl (fun g11=>?_) fun g11=>?_
   ·refine s7 [.bool _] rfl ?_
    first|rfl|(cases g0; done)|(exfalso; omega)|(trace_state; done)
   have zr:=word_right hi (by omega); have eb:mK (rowsD dc l) (n % (((el (rowsD dc l)).length:Int) * ((el ((el (rowsD dc l)).getD (0:Int).toNat default).1).length:Int))) / ((el ((el (rowsD dc l)).getD (0:Int).toNat default).1).length:Int) * ((el ((el (rowsD dc l)).getD (0:Int).toNat default).1).length:Int)+(mK (rowsD dc l) (n % (((el (rowsD dc l)).length:Int) * ((el ((el (rowsD dc l)).getD (0:Int).toNat default).1).length:Int))) % ((el ((el (rowsD dc l)).getD (0:Int).toNat default).1).length:Int)+1)=mK (rowsD dc l) (n % (((el (rowsD dc l)).length:Int) * ((el ((el (rowsD dc l)).getD (0:Int).toNat default).1).length:Int)))+1:=(by omega); rw [← eb] at zr; have xr:=nums zr.1 qd.2.symm; have xj:=nums (word_ends zr.1).1 qd.2.symm
   refine s1 (ev_inbsS rfl) rfl rfl rfl ?_
   refine s5 rfl (fun g12=>?_) fun g12=>?_
   ·refine s8 ?_
    first|omega|(trace_state; done)
   refine s2 (r:=rCl) (ev_getS rfl (by omega) (by omega) rfl) rfl rfl ?_
   refine s1 (ev_lenS _ _) rfl rfl rfl ?_
   first|refine s1 (ev_quoW (by omega) (by omega) (wrap64 (by omega) (by omega))) rfl rfl rfl ?_|refine s1 (ev_quo _ _ _ (by omega)) rfl rfl rfl ?_
   first|refine s1 (ev_remW (by omega) (by omega)) rfl rfl rfl ?_|refine s1 (ev_rem _ _ _ (by omega)) rfl rfl rfl ?_
   refine s3 (wrd_at zr.1 qd.2.symm) rfl ?_
   show Tr.sav _ _ (.cons 60 _ (.cons 59 _ (.cons 58 _ (.cons 57 _ (.cons 56 _ _)))))
   refine s1 (ev_neq _ _ _) rfl rfl rfl ?_
   refine s4 rfl (fun g13=>?_) fun g13=>?_
   ·refine s7 [.bool _] rfl ?_
    first|rfl|(cases g0; done)|(exfalso; omega)|(trace_state; done)
   first|refine s1 (ev_mulW (wrap64 (by omega) (by omega))) rfl rfl rfl ?_|refine s1 (ev_mul _ _ _) rfl rfl rfl ?_
   first|refine s1 (ev_addW (wrap64 (by omega) (by omega))) rfl rfl rfl ?_|refine s1 (ev_add _ _ _) rfl rfl rfl ?_
   refine s1 (ev_neq _ _ _) rfl rfl rfl ?_
   refine s4 rfl (fun g14=>?_) fun g14=>?_
   ·refine s7 [.bool _] rfl ?_
    first|rfl|(cases g0; done)|(exfalso; omega)|(trace_state; done)
   refine s7 [.bool _] rfl ?_
   first|rfl|(cases g0; done)|(exfalso; omega)|(trace_state; done)
  ·cases hs
 ·cases hs
end Go.Proofs.YtdkdbjgkedahfaaDoor

namespace Go.Proofs.YtdkdbjgkedahfaaDoor.pickWordsDone
set_option linter.all false
open Go Go.Sx Go.ChangeShapes Go.WideShapes Go.ChangeAt Go.RowKit
set_option linter.unusedVariables false
set_option maxRecDepth 100000
theorem start {W:World} (h:laidMetH Tryd.prog Rows.pickWordsRow.laid W):StartOk Tryd.prog (fun k=>W.heap[k]?) gl H0 n0:=by
 rw [MakeChecks.laidMetH_plain _ _ _ (by kernel_rfl)] at h
 have r1:RowAt W 1 [.int .i64 (768),.int .i64 (879),.int .i64 (1155),.int .i64 (1161),.int .i64 (1425),.int .i64 (1469),.int .i64 (1552),.int .i64 (1562),.int .i64 (1611),.int .i64 (1631),.int .i64 (6832),.int .i64 (6911),.int .i64 (7616),.int .i64 (7679),.int .i64 (8203),.int .i64 (8207),.int .i64 (8400),.int .i64 (8447),.int .i64 (65024),.int .i64 (65039),.int .i64 (65056),.int .i64 (65071)]:=rowAt_data (by kernel_rfl) (laid_row (n := "fenestra/width.marks") (d:=Rows.laid_fenestra_width_marks) (g:=1) (k:=6) (t:=152) h (List.mem_of_getElem? (i:=0) rfl) (by kernel_rfl) (by kernel_rfl) (by kernel_rfl))
 have r2:RowAt W 2 [.int .i64 (4352),.int .i64 (4447),.int .i64 (11904),.int .i64 (12350),.int .i64 (12353),.int .i64 (19903),.int .i64 (19968),.int .i64 (42191),.int .i64 (44032),.int .i64 (55203),.int .i64 (63744),.int .i64 (64255),.int .i64 (65072),.int .i64 (65135),.int .i64 (65280),.int .i64 (65376),.int .i64 (65504),.int .i64 (65510),.int .i64 (127744),.int .i64 (128591),.int .i64 (128640),.int .i64 (128767),.int .i64 (129280),.int .i64 (129535),.int .i64 (131072),.int .i64 (262141)]:=rowAt_data (by kernel_rfl) (laid_row (n := "fenestra/width.wides") (d:=Rows.laid_fenestra_width_wides) (g:=2) (k:=6) (t:=154) h (List.mem_of_getElem? (i:=1) rfl) (by kernel_rfl) (by kernel_rfl) (by kernel_rfl))
 have hs:gl≤W.heap.size:=by
  obtain ⟨C,T,fz,e,_⟩:=r2
  have:=(Array.getElem?_eq_some_iff.1 e).1
  show 3≤_
  omega
 refine start_of hs (by decide) ?_ ?_
 ·have e:(rows0.all fun r=>Nat.blt r.1 gl)=true:=by kernel_rfl
  exact fun r hr=>Nat.le_of_ble_eq_true (List.all_eq_true.1 e r hr)
 ·intro r hr
  unfold rows0 at hr
  rcases List.mem_cons.1 hr with rfl|hr
  ·exact r1
  rcases List.mem_cons.1 hr with rfl|hr
  ·exact r2
  cases hr
theorem own:ownKnob Tryd.prog.godebug=none:=by kernel_rfl
theorem laidOut:laidOutB Tryd.prog=true:=by kernel_rfl
noncomputable def low:Nat:=(World.holding Tryd.prog default ⟨#[],#[.agg #[.int .u8 0,.slice none 0 0],.int .u16 0],[]⟩).heap.size
noncomputable def put (g:Nat) (cs:Array Value) (h:Array Obj):Array Obj:=h.modify g fun
 | .cells _ t frozen=>.cells cs t frozen
 | o=>o
noncomputable def laidWorld (os:Os):World :=
 let w0:=World.holding Tryd.prog os ⟨#[],#[.agg #[.int .u8 0,.slice none 0 0],.int .u16 0],[]⟩
 { w0 with heap:=(put 2 (rows0.getD 1 (0,[])).2.toArray (put 1 (rows0.getD 0 (0,[])).2.toArray w0.heap)) }
theorem laid_met (os:Os):laidMet Tryd.prog Rows.pickWordsRow.laid ((laidWorld os).forCall (fun _ _=>0) ⟨#[],#[.agg #[.int .u8 0,.slice none 0 0],.int .u16 0],[]⟩).memory :=
 laidMet_of_run' 8 (by kernel_rfl) (by kernel_rfl)
theorem reads (os:Os) {H:Type} (enc:TypeId × Value→H):∃ places,DataW.whole enc Tryd.prog ((laidWorld os).forCall (fun _ _=>0) ⟨#[],#[.agg #[.int .u8 0,.slice none 0 0],.int .u16 0],[]⟩).memory Tryd.f6.params.toList Rows.pickWordsSpec.vars false [.agg #[.int .u8 0,.slice none 0 0],.int .u16 0] 8=some ([.agg [.lit (.int .u8 0),.nil],.lit (.int .u16 0)],[],places) :=
 ⟨[],by kernel_rfl⟩
theorem contract (H:Type) (enc:TypeId × Value→H) (W:World) (base:Nat) (args:Array Value) (ds gs:List (DataW H)) (before:List MemPlace)
  (hval:∀ (j:Nat) t v,Tryd.f6.params[j]? = some t→args[j]? = some v→Value.okWide Tryd.prog W .any base t v)
  (hW:DataW.Whole enc Tryd.prog Tryd.f6.params.toList Rows.pickWordsSpec.vars false W args.toList ds gs before) (hL:laidMetH Tryd.prog Rows.pickWordsRow.laid W)
  (hwt:(DataW.weightsEach Tryd.prog (Tryd.f6.params.toList++(OpenSpec.ofChange Rows.pickWordsSpec).bare.plain.varTypes Tryd.prog) (ds++gs)).all (·≤reachBytes)=true) :
  Calls Tryd.prog 6 args W fun e W'=>∃ v,e=.returned v∧Rows.pickWordsSpec.post enc Tryd.prog Tryd.f6 false true false false W args v W':=by
 have hW':=hW
 obtain ⟨p,q,hA0,hV,rfl,hfz,hnd⟩:=hW
 have hA:DataW.TrodAll enc Tryd.prog W 0 (fun _=>true) true Tryd.f6.params.toList args.toList ds p:=hA0
 rw [Tryd.params6] at hA hval hwt
 obtain ⟨v0,vs0,d0,ds0,p0,q0,hargs,rfl,rfl,h0,tl0⟩:=trodAll_cons hA
 obtain ⟨v1,vs1,d1,ds1,p1,q1,rfl,rfl,rfl,h1,tl1⟩:=trodAll_cons tl0
 obtain ⟨rfl,rfl,rfl⟩:=trodAll_nil tl1
 obtain rfl:args=#[v0,v1]:=by cases args; simp_all
 obtain ⟨rfl,rfl⟩:=trodVars_none hV
 have lt0:∀ x ∈ p0,x.block < W.heap.size:=by obtain ⟨m,hm⟩:=h0; exact DataW.trod_lt m _ _ _ hm
 have wl0:Light Tryd.prog 24 d0:=weightsEach_get (i:=0) hwt rfl rfl
 obtain ⟨⟨a0_0,a0_1⟩,s0,q0⟩:=arg_a (r:=(rC (cInt .u8) (r1 (cSl rDr)))) (tg:=[4,13]) (RdR.of (k:=12) (ts:=[5,22]) (by kernel_rfl) (RdL.cons (RdC.u8 (by kernel_rfl)) (RdL.nil1 (RdC.slice' (r:=rDr) (e:=101) 40 (by kernel_rfl) (by kernel_rfl) (by decide) (by kernel_rfl) (by decide) (RdR.of (k:=12) (ts:=[5,74,4]) (by kernel_rfl) (RdL.cons (RdC.u8 (by kernel_rfl)) (RdL.cons (RdC.slice' (r:=rB) (e:=5) 1 (by kernel_rfl) (by kernel_rfl) (by decide) (by kernel_rfl) (by decide) (RdR.of (k:=12) (ts:=[5]) (by kernel_rfl) (RdL.nil1 (RdC.u8 (by kernel_rfl))))) (RdL.nil1 (RdC.bool (by kernel_rfl)))))))))) (fun _=>by simp only [rC,r1,List.map_cons,List.map_nil,cSl,cInt,cBool,cStr,tagS]; rfl) (okWide_agg (by kernel_rfl) (hval 0 24 v0 rfl rfl)) h0 wl0
 try simp only at q0
 have lt1:∀ x ∈ p1,x.block < W.heap.size:=by obtain ⟨m,hm⟩:=h1; exact DataW.trod_lt m _ _ _ hm
 have wl1:Light Tryd.prog 49 d1:=weightsEach_get (i:=1) hwt rfl rfl
 obtain ⟨a1,s1,q1⟩:=arg_s (c:=(cInt .u16)) (RdC.u16 (by kernel_rfl)) (by kernel_rfl) (hval 1 49 v1 rfl rfl) h1 wl1
 try simp only at q1
 clear hA0
 simp only [List.append_nil] at hW'
 have hsh:ShL (hpOf W) [.a [4,13],.s 5] [.int .u8 a0_0,encS rDr a0_1,.int .u16 a1] [v0,v1]:=(.cons s0 (.cons s1 .nil))
 obtain ⟨_,hc⟩:=pw_c (start hL) [.int .u8 a0_0,encS rDr a0_1,.int .u16 a1] [.bool true] W _ (hpOf W) hsh (pw_s_e _ _ _ ⟨q0.1.1,q0.1.2,⟨q0.2.1,fun x hx=>⟨(q0.2.2 x hx).2.1.2,(q0.2.2 x hx).2.1.1⟩⟩,q1.1,q1.2⟩) (fun k o h=>h) (fun k o h=>h)
 refine hc.mono fun e W' ⟨r,R',hr,he,hg,_⟩=>?_
 have hrv:=val_of_shL (vs2:=[.bool true]) hr rfl
 subst hrv
 subst he
 have bel:Below W.heap.size W W':=⟨hg.os.1,hg.os.2.1,hg.os.2.2,hg.size,hg.keep⟩
 exact ⟨_,rfl,_,_,_,[],_,[],hW',trodAll_mk1 (shut_bool Tryd.underlying4 _),(trodAll_cons_mk (Below.trod laidOut (by kernel_rfl) (of_decide_eq_true (by kernel_rfl)) h0 bel lt0) (trodAll_cons_mk (Below.trod laidOut (by kernel_rfl) (of_decide_eq_true (by kernel_rfl)) h1 bel lt1) trodAll_mk0)),rfl,hg.kept _,fun h=>by cases h⟩
theorem lifted (os:Os) (started:os.Started) (H:Type) (enc:TypeId × Value→H) (F:Stop.Interp) :
  ReturnsInHanded {} Tryd.checked os 6 .any ((OpenSpec.ofChange Rows.pickWordsSpec).preRow enc Tryd.prog Tryd.f6 Rows.pickWordsRow.domain false Rows.pickWordsRow.laid) (((OpenSpec.ofChange Rows.pickWordsSpec).at F).post enc Tryd.prog Tryd.f6 false true false false):=by
 obtain ⟨places,hx⟩:=reads os enc
 refine returnsInHanded_of_row (C:=Tryd.checked) (s:=OpenSpec.ofChange Rows.pickWordsSpec) own started (by kernel_rfl) Tryd.func6
  (witness_row_at (enc:=enc) (C:=Tryd.checked) false (laidWorld os) #[.agg #[.int .u8 0,.slice none 0 0],.int .u16 0] rfl (by kernel_rfl) (by kernel_rfl) (by kernel_rfl)
    (OpenSpec.preRow_of_cond 8 hx (by kernel_rfl) (fun k hk=>by cases hk) (by kernel_rfl) (laid_met os))) ?_
 intro W base args ds gs before hval hW _ _ hwt hL _ _
 exact contract H enc W base args ds gs before hval hW hL hwt
theorem said:Rows.PickWordsSaid :=
 OpenClaim.holds_of_cond 6 Tryd.f6 rfl rfl rfl rfl rfl rfl rfl ⟨rfl,rfl,rfl,rfl,rfl⟩ rfl rfl rfl rfl rfl (by kernel_rfl) Tryd.func6 (by kernel_rfl)
  (of_decide_eq_true (by kernel_rfl)) (by unfold Func.isWrapper; first|(rw [if_pos (by decide +kernel)]; kernel_rfl)|(rw [if_neg (by decide +kernel)]; exact ⟨rfl,rfl⟩))
  (fun os started H enc _ F=>by rw [OpenClaim.pre_eq_preRow]; exact lifted os started H enc F)
theorem plain (f:FuncId) (fn:Func) (hf:Tryd.pinned.checked.prog.funcNamed "fenestra/fenestralaw32.PickWords"=some f) (hfn:Tryd.pinned.checked.prog.funcs[f]? = some fn) :
  false=Tryd.pinned.checked.prog.looks []∧∀ (j:Nat) t,fn.params[j]? = some t→Tryd.pinned.checked.prog.wantsStandIn t=false:=by
 obtain rfl:f=6:=Option.some.inj ((show Tryd.prog.funcNamed "fenestra/fenestralaw32.PickWords"=some 6 by kernel_rfl).symm.trans hf) |>.symm
 obtain rfl:fn=Tryd.f6:=(Option.some.inj (Tryd.func6.symm.trans hfn)).symm
 refine ⟨by kernel_rfl,fun j t ht=>?_⟩
 have hall:(Tryd.f6.params.toList.all fun t=>!Tryd.prog.wantsStandIn t)=true:=by kernel_rfl
 have:=List.all_eq_true.1 hall t (Array.mem_def.1 (Array.mem_of_getElem? ht))
 have h2:Tryd.prog.wantsStandIn t=false:=by simpa using this
 exact h2
theorem proved:Rows.PickWordsCardSaid :=
 Claim7.holds_tied_plain_at .later [] _ _ _ _ said (fun _ h=>by cases h) (by kernel_rfl) (fun _ h=>by cases h) pickWords_row_tie rfl ⟨rfl,rfl⟩ (by kernel_rfl) rfl plain (by kernel_rfl)
#print axioms proved
end Go.Proofs.YtdkdbjgkedahfaaDoor.pickWordsDone
