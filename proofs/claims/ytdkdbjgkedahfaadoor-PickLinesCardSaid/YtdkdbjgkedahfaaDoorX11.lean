/- The law PickLines: for every input the call returns true, and the arguments read behind it as they read before. No condition. -/
import Derived.Test.YtdkdbjgkedahfaaDoorX10
namespace Go.Proofs.YtdkdbjgkedahfaaDoor
set_option linter.all false
open Go Go.Sx
set_option maxRecDepth 100000
set_option linter.unusedVariables false
set_option linter.unusedSimpArgs false
noncomputable def B58:List (FuncId × FnC):=(61,M9 Tryd.prog [.s 12] i0 [.s 3])::L0
theorem B4h {G:Nat→Option Obj} (hst:C3 Tryd.prog G gl H0 n0):I2 Tryd.prog G gl B58:=(.cons (B2c hst) .nil)
def A5b:List U→Option (Nat × List U)
 | []=>some (0,[.bool (true)])
 | _=>none
theorem B6E :A5b []=some (0,[.bool (true)]):=rfl
def B4m:Tr:=.dt 22 (.mk 12) [jI 97,jI 0,jI 0,jI 0,jI 0,jI 0,jI 0,jI 0,jI 0,jI 0,jI 0,jI 0,jI 98,jI 0,jI 0,jI 0,jI 0,jI 0,jI 0,jI 0,jI 0,jI 0,jI 0,jI 0,jI 32,jI 0,jI 0,jI 0,jI 0,jI 0,jI 0,jI 0,jI 0,jI 0,jI 0,jI 0,jI 99,jI 0,jI 0,jI 0,jI 0,jI 0,jI 0,jI 0,jI 0,jI 0,jI 0,jI 0,jI 100,jI 0,jI 0,jI 0,jI 0,jI 0,jI 0,jI 0,jI 0,jI 0,jI 0,jI 0,jI 32,jI 0,jI 0,jI 0,jI 0,jI 0,jI 0,jI 0,jI 0,jI 0,jI 0,jI 0] <| .dt 22 (.mk 12) [jI 101,jI 0,jI 0,jI 0,jI 0,jI 0,jI 0,jI 0,jI 0,jI 0,jI 0,jI 0,jI 102,jI 0,jI 0,jI 0,jI 0,jI 0,jI 0,jI 0,jI 0,jI 0,jI 0,jI 0,jI 32,jI 0,jI 0,jI 0,jI 0,jI 0,jI 0,jI 0,jI 0,jI 0,jI 0,jI 0,jI 32,jI 0,jI 0,jI 0,jI 0,jI 0,jI 0,jI 0,jI 0,jI 0,jI 0,jI 0,jI 32,jI 0,jI 0,jI 0,jI 0,jI 0,jI 0,jI 0,jI 0,jI 0,jI 0,jI 0,jI 32,jI 0,jI 0,jI 0,jI 0,jI 0,jI 0,jI 0,jI 0,jI 0,jI 0,jI 0] <| .dt 22 (.mk 12) [jI 120,jI 0,jI 0,jI 0,jI 0,jI 0,jI 0,jI 0,jI 0,jI 0,jI 0,jI 0,jI 46,jI 0,jI 0,jI 0,jI 0,jI 0,jI 0,jI 0,jI 0,jI 0,jI 0,jI 0,jI 121,jI 0,jI 0,jI 0,jI 0,jI 0,jI 0,jI 0,jI 0,jI 0,jI 0,jI 0,jI 32,jI 0,jI 0,jI 0,jI 0,jI 0,jI 0,jI 0,jI 0,jI 0,jI 0,jI 0,jI 32,jI 0,jI 0,jI 0,jI 0,jI 0,jI 0,jI 0,jI 0,jI 0,jI 0,jI 0,jI 32,jI 0,jI 0,jI 0,jI 0,jI 0,jI 0,jI 0,jI 0,jI 0,jI 0,jI 0] <| .dt 12 (.mk 2) [h 0 22,.bool true,h 1 22,.bool false,h 2 22,.bool false] <| .fn i0 [h 3 12] 1 <| .lt 8 (.bin .neq) [h 4 3,jI 0] <| .br 5 (.no) (.dt 22 (.mk 12) [jI 97,jI 0,jI 0,jI 0,jI 0,jI 0,jI 0,jI 0,jI 0,jI 0,jI 0,jI 0,jI 98,jI 0,jI 0,jI 0,jI 0,jI 0,jI 0,jI 0,jI 0,jI 0,jI 0,jI 0,jI 32,jI 0,jI 0,jI 0,jI 0,jI 0,jI 0,jI 0,jI 0,jI 0,jI 0,jI 0,jI 99,jI 0,jI 0,jI 0,jI 0,jI 0,jI 0,jI 0,jI 0,jI 0,jI 0,jI 0,jI 100,jI 0,jI 0,jI 0,jI 0,jI 0,jI 0,jI 0,jI 0,jI 0,jI 0,jI 0,jI 32,jI 0,jI 0,jI 0,jI 0,jI 0,jI 0,jI 0,jI 0,jI 0,jI 0,jI 0] <| .dt 22 (.mk 12) [jI 101,jI 0,jI 0,jI 0,jI 0,jI 0,jI 0,jI 0,jI 0,jI 0,jI 0,jI 0,jI 102,jI 0,jI 0,jI 0,jI 0,jI 0,jI 0,jI 0,jI 0,jI 0,jI 0,jI 0,jI 32,jI 0,jI 0,jI 0,jI 0,jI 0,jI 0,jI 0,jI 0,jI 0,jI 0,jI 0,jI 32,jI 0,jI 0,jI 0,jI 0,jI 0,jI 0,jI 0,jI 0,jI 0,jI 0,jI 0,jI 32,jI 0,jI 0,jI 0,jI 0,jI 0,jI 0,jI 0,jI 0,jI 0,jI 0,jI 0,jI 32,jI 0,jI 0,jI 0,jI 0,jI 0,jI 0,jI 0,jI 0,jI 0,jI 0,jI 0] <| .dt 22 (.mk 12) [jI 120,jI 0,jI 0,jI 0,jI 0,jI 0,jI 0,jI 0,jI 0,jI 0,jI 0,jI 0,jI 46,jI 0,jI 0,jI 0,jI 0,jI 0,jI 0,jI 0,jI 0,jI 0,jI 0,jI 0,jI 121,jI 0,jI 0,jI 0,jI 0,jI 0,jI 0,jI 0,jI 0,jI 0,jI 0,jI 0,jI 32,jI 0,jI 0,jI 0,jI 0,jI 0,jI 0,jI 0,jI 0,jI 0,jI 0,jI 0,jI 32,jI 0,jI 0,jI 0,jI 0,jI 0,jI 0,jI 0,jI 0,jI 0,jI 0,jI 0,jI 32,jI 0,jI 0,jI 0,jI 0,jI 0,jI 0,jI 0,jI 0,jI 0,jI 0,jI 0] <| .dt 12 (.mk 2) [h 6 22,.bool true,h 7 22,.bool false,h 8 22,.bool false] <| .fn i0 [h 9 12] 1 <| .lt 8 (.bin .neq) [h 10 3,jI 0] <| .br 11 (.no) (.dt 22 (.mk 12) [jI 97,jI 0,jI 0,jI 0,jI 0,jI 0,jI 0,jI 0,jI 0,jI 0,jI 0,jI 0,jI 98,jI 0,jI 0,jI 0,jI 0,jI 0,jI 0,jI 0,jI 0,jI 0,jI 0,jI 0,jI 32,jI 0,jI 0,jI 0,jI 0,jI 0,jI 0,jI 0,jI 0,jI 0,jI 0,jI 0,jI 99,jI 0,jI 0,jI 0,jI 0,jI 0,jI 0,jI 0,jI 0,jI 0,jI 0,jI 0,jI 100,jI 0,jI 0,jI 0,jI 0,jI 0,jI 0,jI 0,jI 0,jI 0,jI 0,jI 0,jI 32,jI 0,jI 0,jI 0,jI 0,jI 0,jI 0,jI 0,jI 0,jI 0,jI 0,jI 0] <| .dt 22 (.mk 12) [jI 101,jI 0,jI 0,jI 0,jI 0,jI 0,jI 0,jI 0,jI 0,jI 0,jI 0,jI 0,jI 102,jI 0,jI 0,jI 0,jI 0,jI 0,jI 0,jI 0,jI 0,jI 0,jI 0,jI 0,jI 32,jI 0,jI 0,jI 0,jI 0,jI 0,jI 0,jI 0,jI 0,jI 0,jI 0,jI 0,jI 32,jI 0,jI 0,jI 0,jI 0,jI 0,jI 0,jI 0,jI 0,jI 0,jI 0,jI 0,jI 32,jI 0,jI 0,jI 0,jI 0,jI 0,jI 0,jI 0,jI 0,jI 0,jI 0,jI 0,jI 32,jI 0,jI 0,jI 0,jI 0,jI 0,jI 0,jI 0,jI 0,jI 0,jI 0,jI 0] <| .dt 22 (.mk 12) [jI 120,jI 0,jI 0,jI 0,jI 0,jI 0,jI 0,jI 0,jI 0,jI 0,jI 0,jI 0,jI 46,jI 0,jI 0,jI 0,jI 0,jI 0,jI 0,jI 0,jI 0,jI 0,jI 0,jI 0,jI 121,jI 0,jI 0,jI 0,jI 0,jI 0,jI 0,jI 0,jI 0,jI 0,jI 0,jI 0,jI 32,jI 0,jI 0,jI 0,jI 0,jI 0,jI 0,jI 0,jI 0,jI 0,jI 0,jI 0,jI 32,jI 0,jI 0,jI 0,jI 0,jI 0,jI 0,jI 0,jI 0,jI 0,jI 0,jI 0,jI 32,jI 0,jI 0,jI 0,jI 0,jI 0,jI 0,jI 0,jI 0,jI 0,jI 0,jI 0] <| .dt 12 (.mk 2) [h 12 22,.bool true,h 13 22,.bool false,h 14 22,.bool false] <| .fn i0 [h 15 12] 1 <| .lt 8 (.bin .neq) [h 16 3,jI 0] <| .br 17 (.no) (.dt 22 (.mk 12) [jI 97,jI 0,jI 0,jI 0,jI 0,jI 0,jI 0,jI 0,jI 0,jI 0,jI 0,jI 0,jI 98,jI 0,jI 0,jI 0,jI 0,jI 0,jI 0,jI 0,jI 0,jI 0,jI 0,jI 0,jI 32,jI 0,jI 0,jI 0,jI 0,jI 0,jI 0,jI 0,jI 0,jI 0,jI 0,jI 0,jI 99,jI 0,jI 0,jI 0,jI 0,jI 0,jI 0,jI 0,jI 0,jI 0,jI 0,jI 0,jI 100,jI 0,jI 0,jI 0,jI 0,jI 0,jI 0,jI 0,jI 0,jI 0,jI 0,jI 0,jI 32,jI 0,jI 0,jI 0,jI 0,jI 0,jI 0,jI 0,jI 0,jI 0,jI 0,jI 0] <| .dt 22 (.mk 12) [jI 101,jI 0,jI 0,jI 0,jI 0,jI 0,jI 0,jI 0,jI 0,jI 0,jI 0,jI 0,jI 102,jI 0,jI 0,jI 0,jI 0,jI 0,jI 0,jI 0,jI 0,jI 0,jI 0,jI 0,jI 32,jI 0,jI 0,jI 0,jI 0,jI 0,jI 0,jI 0,jI 0,jI 0,jI 0,jI 0,jI 32,jI 0,jI 0,jI 0,jI 0,jI 0,jI 0,jI 0,jI 0,jI 0,jI 0,jI 0,jI 32,jI 0,jI 0,jI 0,jI 0,jI 0,jI 0,jI 0,jI 0,jI 0,jI 0,jI 0,jI 32,jI 0,jI 0,jI 0,jI 0,jI 0,jI 0,jI 0,jI 0,jI 0,jI 0,jI 0] <| .dt 22 (.mk 12) [jI 120,jI 0,jI 0,jI 0,jI 0,jI 0,jI 0,jI 0,jI 0,jI 0,jI 0,jI 0,jI 46,jI 0,jI 0,jI 0,jI 0,jI 0,jI 0,jI 0,jI 0,jI 0,jI 0,jI 0,jI 121,jI 0,jI 0,jI 0,jI 0,jI 0,jI 0,jI 0,jI 0,jI 0,jI 0,jI 0,jI 32,jI 0,jI 0,jI 0,jI 0,jI 0,jI 0,jI 0,jI 0,jI 0,jI 0,jI 0,jI 32,jI 0,jI 0,jI 0,jI 0,jI 0,jI 0,jI 0,jI 0,jI 0,jI 0,jI 0,jI 32,jI 0,jI 0,jI 0,jI 0,jI 0,jI 0,jI 0,jI 0,jI 0,jI 0,jI 0] <| .dt 12 (.mk 2) [h 18 22,.bool true,h 19 22,.bool false,h 20 22,.bool false] <| .fn i0 [h 21 12] 1 <| .lt 8 (.bin .neq) [h 22 3,jI 0] <| .br 23 (.no) (.dt 22 (.mk 12) [jI 97,jI 0,jI 0,jI 0,jI 0,jI 0,jI 0,jI 0,jI 0,jI 0,jI 0,jI 0,jI 98,jI 0,jI 0,jI 0,jI 0,jI 0,jI 0,jI 0,jI 0,jI 0,jI 0,jI 0,jI 32,jI 0,jI 0,jI 0,jI 0,jI 0,jI 0,jI 0,jI 0,jI 0,jI 0,jI 0,jI 99,jI 0,jI 0,jI 0,jI 0,jI 0,jI 0,jI 0,jI 0,jI 0,jI 0,jI 0,jI 100,jI 0,jI 0,jI 0,jI 0,jI 0,jI 0,jI 0,jI 0,jI 0,jI 0,jI 0,jI 32,jI 0,jI 0,jI 0,jI 0,jI 0,jI 0,jI 0,jI 0,jI 0,jI 0,jI 0] <| .dt 22 (.mk 12) [jI 101,jI 0,jI 0,jI 0,jI 0,jI 0,jI 0,jI 0,jI 0,jI 0,jI 0,jI 0,jI 102,jI 0,jI 0,jI 0,jI 0,jI 0,jI 0,jI 0,jI 0,jI 0,jI 0,jI 0,jI 32,jI 0,jI 0,jI 0,jI 0,jI 0,jI 0,jI 0,jI 0,jI 0,jI 0,jI 0,jI 32,jI 0,jI 0,jI 0,jI 0,jI 0,jI 0,jI 0,jI 0,jI 0,jI 0,jI 0,jI 32,jI 0,jI 0,jI 0,jI 0,jI 0,jI 0,jI 0,jI 0,jI 0,jI 0,jI 0,jI 32,jI 0,jI 0,jI 0,jI 0,jI 0,jI 0,jI 0,jI 0,jI 0,jI 0,jI 0] <| .dt 22 (.mk 12) [jI 120,jI 0,jI 0,jI 0,jI 0,jI 0,jI 0,jI 0,jI 0,jI 0,jI 0,jI 0,jI 46,jI 0,jI 0,jI 0,jI 0,jI 0,jI 0,jI 0,jI 0,jI 0,jI 0,jI 0,jI 121,jI 0,jI 0,jI 0,jI 0,jI 0,jI 0,jI 0,jI 0,jI 0,jI 0,jI 0,jI 32,jI 0,jI 0,jI 0,jI 0,jI 0,jI 0,jI 0,jI 0,jI 0,jI 0,jI 0,jI 32,jI 0,jI 0,jI 0,jI 0,jI 0,jI 0,jI 0,jI 0,jI 0,jI 0,jI 0,jI 32,jI 0,jI 0,jI 0,jI 0,jI 0,jI 0,jI 0,jI 0,jI 0,jI 0,jI 0] <| .dt 12 (.mk 2) [h 24 22,.bool true,h 25 22,.bool false,h 26 22,.bool false] <| .fn i0 [h 27 12] 1 <| .lt 8 (.bin .neq) [h 28 3,jI 0] <| .br 29 (.no) (.dt 22 (.mk 12) [jI 97,jI 0,jI 0,jI 0,jI 0,jI 0,jI 0,jI 0,jI 0,jI 0,jI 0,jI 0,jI 98,jI 0,jI 0,jI 0,jI 0,jI 0,jI 0,jI 0,jI 0,jI 0,jI 0,jI 0,jI 32,jI 0,jI 0,jI 0,jI 0,jI 0,jI 0,jI 0,jI 0,jI 0,jI 0,jI 0,jI 99,jI 0,jI 0,jI 0,jI 0,jI 0,jI 0,jI 0,jI 0,jI 0,jI 0,jI 0,jI 100,jI 0,jI 0,jI 0,jI 0,jI 0,jI 0,jI 0,jI 0,jI 0,jI 0,jI 0,jI 32,jI 0,jI 0,jI 0,jI 0,jI 0,jI 0,jI 0,jI 0,jI 0,jI 0,jI 0] <| .dt 22 (.mk 12) [jI 101,jI 0,jI 0,jI 0,jI 0,jI 0,jI 0,jI 0,jI 0,jI 0,jI 0,jI 0,jI 102,jI 0,jI 0,jI 0,jI 0,jI 0,jI 0,jI 0,jI 0,jI 0,jI 0,jI 0,jI 32,jI 0,jI 0,jI 0,jI 0,jI 0,jI 0,jI 0,jI 0,jI 0,jI 0,jI 0,jI 32,jI 0,jI 0,jI 0,jI 0,jI 0,jI 0,jI 0,jI 0,jI 0,jI 0,jI 0,jI 32,jI 0,jI 0,jI 0,jI 0,jI 0,jI 0,jI 0,jI 0,jI 0,jI 0,jI 0,jI 32,jI 0,jI 0,jI 0,jI 0,jI 0,jI 0,jI 0,jI 0,jI 0,jI 0,jI 0] <| .dt 22 (.mk 12) [jI 120,jI 0,jI 0,jI 0,jI 0,jI 0,jI 0,jI 0,jI 0,jI 0,jI 0,jI 0,jI 46,jI 0,jI 0,jI 0,jI 0,jI 0,jI 0,jI 0,jI 0,jI 0,jI 0,jI 0,jI 121,jI 0,jI 0,jI 0,jI 0,jI 0,jI 0,jI 0,jI 0,jI 0,jI 0,jI 0,jI 32,jI 0,jI 0,jI 0,jI 0,jI 0,jI 0,jI 0,jI 0,jI 0,jI 0,jI 0,jI 32,jI 0,jI 0,jI 0,jI 0,jI 0,jI 0,jI 0,jI 0,jI 0,jI 0,jI 0,jI 32,jI 0,jI 0,jI 0,jI 0,jI 0,jI 0,jI 0,jI 0,jI 0,jI 0,jI 0] <| .dt 12 (.mk 2) [h 30 22,.bool true,h 31 22,.bool false,h 32 22,.bool false] <| .fn i0 [h 33 12] 1 <| .lt 8 (.bin .neq) [h 34 3,jI 0] <| .br 35 (.no) (.dt 22 (.mk 12) [jI 97,jI 0,jI 0,jI 0,jI 0,jI 0,jI 0,jI 0,jI 0,jI 0,jI 0,jI 0,jI 98,jI 0,jI 0,jI 0,jI 0,jI 0,jI 0,jI 0,jI 0,jI 0,jI 0,jI 0,jI 32,jI 0,jI 0,jI 0,jI 0,jI 0,jI 0,jI 0,jI 0,jI 0,jI 0,jI 0,jI 99,jI 0,jI 0,jI 0,jI 0,jI 0,jI 0,jI 0,jI 0,jI 0,jI 0,jI 0,jI 100,jI 0,jI 0,jI 0,jI 0,jI 0,jI 0,jI 0,jI 0,jI 0,jI 0,jI 0,jI 32,jI 0,jI 0,jI 0,jI 0,jI 0,jI 0,jI 0,jI 0,jI 0,jI 0,jI 0] <| .dt 22 (.mk 12) [jI 101,jI 0,jI 0,jI 0,jI 0,jI 0,jI 0,jI 0,jI 0,jI 0,jI 0,jI 0,jI 102,jI 0,jI 0,jI 0,jI 0,jI 0,jI 0,jI 0,jI 0,jI 0,jI 0,jI 0,jI 32,jI 0,jI 0,jI 0,jI 0,jI 0,jI 0,jI 0,jI 0,jI 0,jI 0,jI 0,jI 32,jI 0,jI 0,jI 0,jI 0,jI 0,jI 0,jI 0,jI 0,jI 0,jI 0,jI 0,jI 32,jI 0,jI 0,jI 0,jI 0,jI 0,jI 0,jI 0,jI 0,jI 0,jI 0,jI 0,jI 32,jI 0,jI 0,jI 0,jI 0,jI 0,jI 0,jI 0,jI 0,jI 0,jI 0,jI 0] <| .dt 22 (.mk 12) [jI 120,jI 0,jI 0,jI 0,jI 0,jI 0,jI 0,jI 0,jI 0,jI 0,jI 0,jI 0,jI 46,jI 0,jI 0,jI 0,jI 0,jI 0,jI 0,jI 0,jI 0,jI 0,jI 0,jI 0,jI 121,jI 0,jI 0,jI 0,jI 0,jI 0,jI 0,jI 0,jI 0,jI 0,jI 0,jI 0,jI 32,jI 0,jI 0,jI 0,jI 0,jI 0,jI 0,jI 0,jI 0,jI 0,jI 0,jI 0,jI 32,jI 0,jI 0,jI 0,jI 0,jI 0,jI 0,jI 0,jI 0,jI 0,jI 0,jI 0,jI 32,jI 0,jI 0,jI 0,jI 0,jI 0,jI 0,jI 0,jI 0,jI 0,jI 0,jI 0] <| .dt 12 (.mk 2) [h 36 22,.bool true,h 37 22,.bool false,h 38 22,.bool false] <| .fn i0 [h 39 12] 1 <| .lt 8 (.bin .neq) [h 40 3,jI 0] <| .br 41 (.no) (.dt 22 (.mk 12) [jI 97,jI 0,jI 0,jI 0,jI 0,jI 0,jI 0,jI 0,jI 0,jI 0,jI 0,jI 0,jI 98,jI 0,jI 0,jI 0,jI 0,jI 0,jI 0,jI 0,jI 0,jI 0,jI 0,jI 0,jI 32,jI 0,jI 0,jI 0,jI 0,jI 0,jI 0,jI 0,jI 0,jI 0,jI 0,jI 0,jI 99,jI 0,jI 0,jI 0,jI 0,jI 0,jI 0,jI 0,jI 0,jI 0,jI 0,jI 0,jI 100,jI 0,jI 0,jI 0,jI 0,jI 0,jI 0,jI 0,jI 0,jI 0,jI 0,jI 0,jI 32,jI 0,jI 0,jI 0,jI 0,jI 0,jI 0,jI 0,jI 0,jI 0,jI 0,jI 0] <| .dt 22 (.mk 12) [jI 101,jI 0,jI 0,jI 0,jI 0,jI 0,jI 0,jI 0,jI 0,jI 0,jI 0,jI 0,jI 102,jI 0,jI 0,jI 0,jI 0,jI 0,jI 0,jI 0,jI 0,jI 0,jI 0,jI 0,jI 32,jI 0,jI 0,jI 0,jI 0,jI 0,jI 0,jI 0,jI 0,jI 0,jI 0,jI 0,jI 32,jI 0,jI 0,jI 0,jI 0,jI 0,jI 0,jI 0,jI 0,jI 0,jI 0,jI 0,jI 32,jI 0,jI 0,jI 0,jI 0,jI 0,jI 0,jI 0,jI 0,jI 0,jI 0,jI 0,jI 32,jI 0,jI 0,jI 0,jI 0,jI 0,jI 0,jI 0,jI 0,jI 0,jI 0,jI 0] <| .dt 22 (.mk 12) [jI 120,jI 0,jI 0,jI 0,jI 0,jI 0,jI 0,jI 0,jI 0,jI 0,jI 0,jI 0,jI 46,jI 0,jI 0,jI 0,jI 0,jI 0,jI 0,jI 0,jI 0,jI 0,jI 0,jI 0,jI 121,jI 0,jI 0,jI 0,jI 0,jI 0,jI 0,jI 0,jI 0,jI 0,jI 0,jI 0,jI 32,jI 0,jI 0,jI 0,jI 0,jI 0,jI 0,jI 0,jI 0,jI 0,jI 0,jI 0,jI 32,jI 0,jI 0,jI 0,jI 0,jI 0,jI 0,jI 0,jI 0,jI 0,jI 0,jI 0,jI 32,jI 0,jI 0,jI 0,jI 0,jI 0,jI 0,jI 0,jI 0,jI 0,jI 0,jI 0] <| .dt 12 (.mk 2) [h 42 22,.bool true,h 43 22,.bool false,h 44 22,.bool false] <| .fn i0 [h 45 12] 1 <| .lt 8 (.bin .neq) [h 46 3,jI 0] <| .br 47 (.no) (.dt 22 (.mk 12) [jI 97,jI 0,jI 0,jI 0,jI 0,jI 0,jI 0,jI 0,jI 0,jI 0,jI 0,jI 0,jI 98,jI 0,jI 0,jI 0,jI 0,jI 0,jI 0,jI 0,jI 0,jI 0,jI 0,jI 0,jI 32,jI 0,jI 0,jI 0,jI 0,jI 0,jI 0,jI 0,jI 0,jI 0,jI 0,jI 0,jI 99,jI 0,jI 0,jI 0,jI 0,jI 0,jI 0,jI 0,jI 0,jI 0,jI 0,jI 0,jI 100,jI 0,jI 0,jI 0,jI 0,jI 0,jI 0,jI 0,jI 0,jI 0,jI 0,jI 0,jI 32,jI 0,jI 0,jI 0,jI 0,jI 0,jI 0,jI 0,jI 0,jI 0,jI 0,jI 0] <| .dt 22 (.mk 12) [jI 101,jI 0,jI 0,jI 0,jI 0,jI 0,jI 0,jI 0,jI 0,jI 0,jI 0,jI 0,jI 102,jI 0,jI 0,jI 0,jI 0,jI 0,jI 0,jI 0,jI 0,jI 0,jI 0,jI 0,jI 32,jI 0,jI 0,jI 0,jI 0,jI 0,jI 0,jI 0,jI 0,jI 0,jI 0,jI 0,jI 32,jI 0,jI 0,jI 0,jI 0,jI 0,jI 0,jI 0,jI 0,jI 0,jI 0,jI 0,jI 32,jI 0,jI 0,jI 0,jI 0,jI 0,jI 0,jI 0,jI 0,jI 0,jI 0,jI 0,jI 32,jI 0,jI 0,jI 0,jI 0,jI 0,jI 0,jI 0,jI 0,jI 0,jI 0,jI 0] <| .dt 22 (.mk 12) [jI 120,jI 0,jI 0,jI 0,jI 0,jI 0,jI 0,jI 0,jI 0,jI 0,jI 0,jI 0,jI 46,jI 0,jI 0,jI 0,jI 0,jI 0,jI 0,jI 0,jI 0,jI 0,jI 0,jI 0,jI 121,jI 0,jI 0,jI 0,jI 0,jI 0,jI 0,jI 0,jI 0,jI 0,jI 0,jI 0,jI 32,jI 0,jI 0,jI 0,jI 0,jI 0,jI 0,jI 0,jI 0,jI 0,jI 0,jI 0,jI 32,jI 0,jI 0,jI 0,jI 0,jI 0,jI 0,jI 0,jI 0,jI 0,jI 0,jI 0,jI 32,jI 0,jI 0,jI 0,jI 0,jI 0,jI 0,jI 0,jI 0,jI 0,jI 0,jI 0] <| .dt 12 (.mk 2) [h 48 22,.bool true,h 49 22,.bool false,h 50 22,.bool false] <| .fn i0 [h 51 12] 1 <| .lt 8 (.bin .neq) [h 52 3,jI 0] <| .br 53 (.no) (.dt 22 (.mk 12) [jI 97,jI 0,jI 0,jI 0,jI 0,jI 0,jI 0,jI 0,jI 0,jI 0,jI 0,jI 0,jI 98,jI 0,jI 0,jI 0,jI 0,jI 0,jI 0,jI 0,jI 0,jI 0,jI 0,jI 0,jI 32,jI 0,jI 0,jI 0,jI 0,jI 0,jI 0,jI 0,jI 0,jI 0,jI 0,jI 0,jI 99,jI 0,jI 0,jI 0,jI 0,jI 0,jI 0,jI 0,jI 0,jI 0,jI 0,jI 0,jI 100,jI 0,jI 0,jI 0,jI 0,jI 0,jI 0,jI 0,jI 0,jI 0,jI 0,jI 0,jI 32,jI 0,jI 0,jI 0,jI 0,jI 0,jI 0,jI 0,jI 0,jI 0,jI 0,jI 0] <| .dt 22 (.mk 12) [jI 101,jI 0,jI 0,jI 0,jI 0,jI 0,jI 0,jI 0,jI 0,jI 0,jI 0,jI 0,jI 102,jI 0,jI 0,jI 0,jI 0,jI 0,jI 0,jI 0,jI 0,jI 0,jI 0,jI 0,jI 32,jI 0,jI 0,jI 0,jI 0,jI 0,jI 0,jI 0,jI 0,jI 0,jI 0,jI 0,jI 32,jI 0,jI 0,jI 0,jI 0,jI 0,jI 0,jI 0,jI 0,jI 0,jI 0,jI 0,jI 32,jI 0,jI 0,jI 0,jI 0,jI 0,jI 0,jI 0,jI 0,jI 0,jI 0,jI 0,jI 32,jI 0,jI 0,jI 0,jI 0,jI 0,jI 0,jI 0,jI 0,jI 0,jI 0,jI 0] <| .dt 22 (.mk 12) [jI 120,jI 0,jI 0,jI 0,jI 0,jI 0,jI 0,jI 0,jI 0,jI 0,jI 0,jI 0,jI 46,jI 0,jI 0,jI 0,jI 0,jI 0,jI 0,jI 0,jI 0,jI 0,jI 0,jI 0,jI 121,jI 0,jI 0,jI 0,jI 0,jI 0,jI 0,jI 0,jI 0,jI 0,jI 0,jI 0,jI 32,jI 0,jI 0,jI 0,jI 0,jI 0,jI 0,jI 0,jI 0,jI 0,jI 0,jI 0,jI 32,jI 0,jI 0,jI 0,jI 0,jI 0,jI 0,jI 0,jI 0,jI 0,jI 0,jI 0,jI 32,jI 0,jI 0,jI 0,jI 0,jI 0,jI 0,jI 0,jI 0,jI 0,jI 0,jI 0] <| .dt 12 (.mk 2) [h 54 22,.bool true,h 55 22,.bool false,h 56 22,.bool false] <| .fn i0 [h 57 12] 1 <| .lt 8 (.bin .neq) [h 58 3,jI 0] <| .br 59 (.no) (.dt 22 (.mk 12) [jI 97,jI 0,jI 0,jI 0,jI 0,jI 0,jI 0,jI 0,jI 0,jI 0,jI 0,jI 0,jI 98,jI 0,jI 0,jI 0,jI 0,jI 0,jI 0,jI 0,jI 0,jI 0,jI 0,jI 0,jI 32,jI 0,jI 0,jI 0,jI 0,jI 0,jI 0,jI 0,jI 0,jI 0,jI 0,jI 0,jI 99,jI 0,jI 0,jI 0,jI 0,jI 0,jI 0,jI 0,jI 0,jI 0,jI 0,jI 0,jI 100,jI 0,jI 0,jI 0,jI 0,jI 0,jI 0,jI 0,jI 0,jI 0,jI 0,jI 0,jI 32,jI 0,jI 0,jI 0,jI 0,jI 0,jI 0,jI 0,jI 0,jI 0,jI 0,jI 0] <| .dt 22 (.mk 12) [jI 101,jI 0,jI 0,jI 0,jI 0,jI 0,jI 0,jI 0,jI 0,jI 0,jI 0,jI 0,jI 102,jI 0,jI 0,jI 0,jI 0,jI 0,jI 0,jI 0,jI 0,jI 0,jI 0,jI 0,jI 32,jI 0,jI 0,jI 0,jI 0,jI 0,jI 0,jI 0,jI 0,jI 0,jI 0,jI 0,jI 32,jI 0,jI 0,jI 0,jI 0,jI 0,jI 0,jI 0,jI 0,jI 0,jI 0,jI 0,jI 32,jI 0,jI 0,jI 0,jI 0,jI 0,jI 0,jI 0,jI 0,jI 0,jI 0,jI 0,jI 32,jI 0,jI 0,jI 0,jI 0,jI 0,jI 0,jI 0,jI 0,jI 0,jI 0,jI 0] <| .dt 22 (.mk 12) [jI 120,jI 0,jI 0,jI 0,jI 0,jI 0,jI 0,jI 0,jI 0,jI 0,jI 0,jI 0,jI 46,jI 0,jI 0,jI 0,jI 0,jI 0,jI 0,jI 0,jI 0,jI 0,jI 0,jI 0,jI 121,jI 0,jI 0,jI 0,jI 0,jI 0,jI 0,jI 0,jI 0,jI 0,jI 0,jI 0,jI 32,jI 0,jI 0,jI 0,jI 0,jI 0,jI 0,jI 0,jI 0,jI 0,jI 0,jI 0,jI 32,jI 0,jI 0,jI 0,jI 0,jI 0,jI 0,jI 0,jI 0,jI 0,jI 0,jI 0,jI 32,jI 0,jI 0,jI 0,jI 0,jI 0,jI 0,jI 0,jI 0,jI 0,jI 0,jI 0] <| .dt 12 (.mk 2) [h 60 22,.bool true,h 61 22,.bool false,h 62 22,.bool false] <| .fn i0 [h 63 12] 1 <| .lt 8 (.bin .neq) [h 64 3,jI 0] <| .br 65 (.no) (.ret [.bool true])))))))))))
theorem C0t {G:Nat→Option Obj} (hst:C3 Tryd.prog G gl H0 n0):Q2 Tryd.prog G 15 [] A5b [.s 8]:=by
 refine F2 (C:=cx B58 []) (d:=60) B4m (cxg (B4h hst) .nil) hst ⟨Tryd.f15,_,Tryd.func15,rfl⟩ (by kernel_rfl) (by kernel_rfl) ?_
 intro us outs hs
 unfold A5b at hs
 split at hs
 ·skip
  skip
  cases hs
  unfold B4m
  refine s0 (.nil) rfl (by simp [Ev.ok,Ev.len]) ?_
  refine s2 (r:=rCl) (H8 [(_,_,_,_,_,_,_,_,_,_,_,_),(_,_,_,_,_,_,_,_,_,_,_,_),(_,_,_,_,_,_,_,_,_,_,_,_),(_,_,_,_,_,_,_,_,_,_,_,_),(_,_,_,_,_,_,_,_,_,_,_,_),(_,_,_,_,_,_,_,_,_,_,_,_)] rfl (by decide) rfl) rfl rfl ?_
  refine s2 (r:=rCl) (H8 [(_,_,_,_,_,_,_,_,_,_,_,_),(_,_,_,_,_,_,_,_,_,_,_,_),(_,_,_,_,_,_,_,_,_,_,_,_),(_,_,_,_,_,_,_,_,_,_,_,_),(_,_,_,_,_,_,_,_,_,_,_,_),(_,_,_,_,_,_,_,_,_,_,_,_)] rfl (by decide) rfl) rfl rfl ?_
  refine s2 (r:=rCl) (H8 [(_,_,_,_,_,_,_,_,_,_,_,_),(_,_,_,_,_,_,_,_,_,_,_,_),(_,_,_,_,_,_,_,_,_,_,_,_),(_,_,_,_,_,_,_,_,_,_,_,_),(_,_,_,_,_,_,_,_,_,_,_,_),(_,_,_,_,_,_,_,_,_,_,_,_)] rfl (by decide) rfl) rfl rfl ?_
  refine s2 (r:=rRw) (H8 [(_,_),(_,_),(_,_)] rfl (by decide) rfl) rfl rfl ?_
  refine s31 (c8 _ (by decide +kernel)) rfl ?_
  refine s1 (G2 _ _ _) rfl rfl rfl ?_
  refine s4 rfl (fun g0=>?_) fun g0=>?_
  ·refine s8 ?_
   (exact absurd (by decide +kernel) g0)
  refine s2 (r:=rCl) (H8 [(_,_,_,_,_,_,_,_,_,_,_,_),(_,_,_,_,_,_,_,_,_,_,_,_),(_,_,_,_,_,_,_,_,_,_,_,_),(_,_,_,_,_,_,_,_,_,_,_,_),(_,_,_,_,_,_,_,_,_,_,_,_),(_,_,_,_,_,_,_,_,_,_,_,_)] rfl (by decide) rfl) rfl rfl ?_
  refine s2 (r:=rCl) (H8 [(_,_,_,_,_,_,_,_,_,_,_,_),(_,_,_,_,_,_,_,_,_,_,_,_),(_,_,_,_,_,_,_,_,_,_,_,_),(_,_,_,_,_,_,_,_,_,_,_,_),(_,_,_,_,_,_,_,_,_,_,_,_),(_,_,_,_,_,_,_,_,_,_,_,_)] rfl (by decide) rfl) rfl rfl ?_
  refine s2 (r:=rCl) (H8 [(_,_,_,_,_,_,_,_,_,_,_,_),(_,_,_,_,_,_,_,_,_,_,_,_),(_,_,_,_,_,_,_,_,_,_,_,_),(_,_,_,_,_,_,_,_,_,_,_,_),(_,_,_,_,_,_,_,_,_,_,_,_),(_,_,_,_,_,_,_,_,_,_,_,_)] rfl (by decide) rfl) rfl rfl ?_
  refine s2 (r:=rRw) (H8 [(_,_),(_,_),(_,_)] rfl (by decide) rfl) rfl rfl ?_
  refine s31 (c8 _ (by decide +kernel)) rfl ?_
  refine s1 (G2 _ _ _) rfl rfl rfl ?_
  refine s4 rfl (fun g1=>?_) fun g1=>?_
  ·refine s8 ?_
   (exact absurd (by decide +kernel) g1)
  refine s2 (r:=rCl) (H8 [(_,_,_,_,_,_,_,_,_,_,_,_),(_,_,_,_,_,_,_,_,_,_,_,_),(_,_,_,_,_,_,_,_,_,_,_,_),(_,_,_,_,_,_,_,_,_,_,_,_),(_,_,_,_,_,_,_,_,_,_,_,_),(_,_,_,_,_,_,_,_,_,_,_,_)] rfl (by decide) rfl) rfl rfl ?_
  refine s2 (r:=rCl) (H8 [(_,_,_,_,_,_,_,_,_,_,_,_),(_,_,_,_,_,_,_,_,_,_,_,_),(_,_,_,_,_,_,_,_,_,_,_,_),(_,_,_,_,_,_,_,_,_,_,_,_),(_,_,_,_,_,_,_,_,_,_,_,_),(_,_,_,_,_,_,_,_,_,_,_,_)] rfl (by decide) rfl) rfl rfl ?_
  refine s2 (r:=rCl) (H8 [(_,_,_,_,_,_,_,_,_,_,_,_),(_,_,_,_,_,_,_,_,_,_,_,_),(_,_,_,_,_,_,_,_,_,_,_,_),(_,_,_,_,_,_,_,_,_,_,_,_),(_,_,_,_,_,_,_,_,_,_,_,_),(_,_,_,_,_,_,_,_,_,_,_,_)] rfl (by decide) rfl) rfl rfl ?_
  refine s2 (r:=rRw) (H8 [(_,_),(_,_),(_,_)] rfl (by decide) rfl) rfl rfl ?_
  refine s31 (c8 _ (by decide +kernel)) rfl ?_
  refine s1 (G2 _ _ _) rfl rfl rfl ?_
  refine s4 rfl (fun g2=>?_) fun g2=>?_
  ·refine s8 ?_
   (exact absurd (by decide +kernel) g2)
  refine s2 (r:=rCl) (H8 [(_,_,_,_,_,_,_,_,_,_,_,_),(_,_,_,_,_,_,_,_,_,_,_,_),(_,_,_,_,_,_,_,_,_,_,_,_),(_,_,_,_,_,_,_,_,_,_,_,_),(_,_,_,_,_,_,_,_,_,_,_,_),(_,_,_,_,_,_,_,_,_,_,_,_)] rfl (by decide) rfl) rfl rfl ?_
  refine s2 (r:=rCl) (H8 [(_,_,_,_,_,_,_,_,_,_,_,_),(_,_,_,_,_,_,_,_,_,_,_,_),(_,_,_,_,_,_,_,_,_,_,_,_),(_,_,_,_,_,_,_,_,_,_,_,_),(_,_,_,_,_,_,_,_,_,_,_,_),(_,_,_,_,_,_,_,_,_,_,_,_)] rfl (by decide) rfl) rfl rfl ?_
  refine s2 (r:=rCl) (H8 [(_,_,_,_,_,_,_,_,_,_,_,_),(_,_,_,_,_,_,_,_,_,_,_,_),(_,_,_,_,_,_,_,_,_,_,_,_),(_,_,_,_,_,_,_,_,_,_,_,_),(_,_,_,_,_,_,_,_,_,_,_,_),(_,_,_,_,_,_,_,_,_,_,_,_)] rfl (by decide) rfl) rfl rfl ?_
  refine s2 (r:=rRw) (H8 [(_,_),(_,_),(_,_)] rfl (by decide) rfl) rfl rfl ?_
  refine s31 (c8 _ (by decide +kernel)) rfl ?_
  refine s1 (G2 _ _ _) rfl rfl rfl ?_
  refine s4 rfl (fun g3=>?_) fun g3=>?_
  ·refine s8 ?_
   (exact absurd (by decide +kernel) g3)
  refine s2 (r:=rCl) (H8 [(_,_,_,_,_,_,_,_,_,_,_,_),(_,_,_,_,_,_,_,_,_,_,_,_),(_,_,_,_,_,_,_,_,_,_,_,_),(_,_,_,_,_,_,_,_,_,_,_,_),(_,_,_,_,_,_,_,_,_,_,_,_),(_,_,_,_,_,_,_,_,_,_,_,_)] rfl (by decide) rfl) rfl rfl ?_
  refine s2 (r:=rCl) (H8 [(_,_,_,_,_,_,_,_,_,_,_,_),(_,_,_,_,_,_,_,_,_,_,_,_),(_,_,_,_,_,_,_,_,_,_,_,_),(_,_,_,_,_,_,_,_,_,_,_,_),(_,_,_,_,_,_,_,_,_,_,_,_),(_,_,_,_,_,_,_,_,_,_,_,_)] rfl (by decide) rfl) rfl rfl ?_
  refine s2 (r:=rCl) (H8 [(_,_,_,_,_,_,_,_,_,_,_,_),(_,_,_,_,_,_,_,_,_,_,_,_),(_,_,_,_,_,_,_,_,_,_,_,_),(_,_,_,_,_,_,_,_,_,_,_,_),(_,_,_,_,_,_,_,_,_,_,_,_),(_,_,_,_,_,_,_,_,_,_,_,_)] rfl (by decide) rfl) rfl rfl ?_
  refine s2 (r:=rRw) (H8 [(_,_),(_,_),(_,_)] rfl (by decide) rfl) rfl rfl ?_
  refine s31 (c8 _ (by decide +kernel)) rfl ?_
  refine s1 (G2 _ _ _) rfl rfl rfl ?_
  refine s4 rfl (fun g4=>?_) fun g4=>?_
  ·refine s8 ?_
   (exact absurd (by decide +kernel) g4)
  refine s2 (r:=rCl) (H8 [(_,_,_,_,_,_,_,_,_,_,_,_),(_,_,_,_,_,_,_,_,_,_,_,_),(_,_,_,_,_,_,_,_,_,_,_,_),(_,_,_,_,_,_,_,_,_,_,_,_),(_,_,_,_,_,_,_,_,_,_,_,_),(_,_,_,_,_,_,_,_,_,_,_,_)] rfl (by decide) rfl) rfl rfl ?_
  refine s2 (r:=rCl) (H8 [(_,_,_,_,_,_,_,_,_,_,_,_),(_,_,_,_,_,_,_,_,_,_,_,_),(_,_,_,_,_,_,_,_,_,_,_,_),(_,_,_,_,_,_,_,_,_,_,_,_),(_,_,_,_,_,_,_,_,_,_,_,_),(_,_,_,_,_,_,_,_,_,_,_,_)] rfl (by decide) rfl) rfl rfl ?_
  refine s2 (r:=rCl) (H8 [(_,_,_,_,_,_,_,_,_,_,_,_),(_,_,_,_,_,_,_,_,_,_,_,_),(_,_,_,_,_,_,_,_,_,_,_,_),(_,_,_,_,_,_,_,_,_,_,_,_),(_,_,_,_,_,_,_,_,_,_,_,_),(_,_,_,_,_,_,_,_,_,_,_,_)] rfl (by decide) rfl) rfl rfl ?_
  refine s2 (r:=rRw) (H8 [(_,_),(_,_),(_,_)] rfl (by decide) rfl) rfl rfl ?_
  refine s31 (c8 _ (by decide +kernel)) rfl ?_
  refine s1 (G2 _ _ _) rfl rfl rfl ?_
  refine s4 rfl (fun g5=>?_) fun g5=>?_
  ·refine s8 ?_
   (exact absurd (by decide +kernel) g5)
  refine s2 (r:=rCl) (H8 [(_,_,_,_,_,_,_,_,_,_,_,_),(_,_,_,_,_,_,_,_,_,_,_,_),(_,_,_,_,_,_,_,_,_,_,_,_),(_,_,_,_,_,_,_,_,_,_,_,_),(_,_,_,_,_,_,_,_,_,_,_,_),(_,_,_,_,_,_,_,_,_,_,_,_)] rfl (by decide) rfl) rfl rfl ?_
  refine s2 (r:=rCl) (H8 [(_,_,_,_,_,_,_,_,_,_,_,_),(_,_,_,_,_,_,_,_,_,_,_,_),(_,_,_,_,_,_,_,_,_,_,_,_),(_,_,_,_,_,_,_,_,_,_,_,_),(_,_,_,_,_,_,_,_,_,_,_,_),(_,_,_,_,_,_,_,_,_,_,_,_)] rfl (by decide) rfl) rfl rfl ?_
  refine s2 (r:=rCl) (H8 [(_,_,_,_,_,_,_,_,_,_,_,_),(_,_,_,_,_,_,_,_,_,_,_,_),(_,_,_,_,_,_,_,_,_,_,_,_),(_,_,_,_,_,_,_,_,_,_,_,_),(_,_,_,_,_,_,_,_,_,_,_,_),(_,_,_,_,_,_,_,_,_,_,_,_)] rfl (by decide) rfl) rfl rfl ?_
  refine s2 (r:=rRw) (H8 [(_,_),(_,_),(_,_)] rfl (by decide) rfl) rfl rfl ?_
  refine s31 (c8 _ (by decide +kernel)) rfl ?_
  refine s1 (G2 _ _ _) rfl rfl rfl ?_
  refine s4 rfl (fun g6=>?_) fun g6=>?_
  ·refine s8 ?_
   (exact absurd (by decide +kernel) g6)
  refine s2 (r:=rCl) (H8 [(_,_,_,_,_,_,_,_,_,_,_,_),(_,_,_,_,_,_,_,_,_,_,_,_),(_,_,_,_,_,_,_,_,_,_,_,_),(_,_,_,_,_,_,_,_,_,_,_,_),(_,_,_,_,_,_,_,_,_,_,_,_),(_,_,_,_,_,_,_,_,_,_,_,_)] rfl (by decide) rfl) rfl rfl ?_
  refine s2 (r:=rCl) (H8 [(_,_,_,_,_,_,_,_,_,_,_,_),(_,_,_,_,_,_,_,_,_,_,_,_),(_,_,_,_,_,_,_,_,_,_,_,_),(_,_,_,_,_,_,_,_,_,_,_,_),(_,_,_,_,_,_,_,_,_,_,_,_),(_,_,_,_,_,_,_,_,_,_,_,_)] rfl (by decide) rfl) rfl rfl ?_
  refine s2 (r:=rCl) (H8 [(_,_,_,_,_,_,_,_,_,_,_,_),(_,_,_,_,_,_,_,_,_,_,_,_),(_,_,_,_,_,_,_,_,_,_,_,_),(_,_,_,_,_,_,_,_,_,_,_,_),(_,_,_,_,_,_,_,_,_,_,_,_),(_,_,_,_,_,_,_,_,_,_,_,_)] rfl (by decide) rfl) rfl rfl ?_
  refine s2 (r:=rRw) (H8 [(_,_),(_,_),(_,_)] rfl (by decide) rfl) rfl rfl ?_
  refine s31 (c8 _ (by decide +kernel)) rfl ?_
  refine s1 (G2 _ _ _) rfl rfl rfl ?_
  refine s4 rfl (fun g7=>?_) fun g7=>?_
  ·refine s8 ?_
   (exact absurd (by decide +kernel) g7)
  refine s2 (r:=rCl) (H8 [(_,_,_,_,_,_,_,_,_,_,_,_),(_,_,_,_,_,_,_,_,_,_,_,_),(_,_,_,_,_,_,_,_,_,_,_,_),(_,_,_,_,_,_,_,_,_,_,_,_),(_,_,_,_,_,_,_,_,_,_,_,_),(_,_,_,_,_,_,_,_,_,_,_,_)] rfl (by decide) rfl) rfl rfl ?_
  refine s2 (r:=rCl) (H8 [(_,_,_,_,_,_,_,_,_,_,_,_),(_,_,_,_,_,_,_,_,_,_,_,_),(_,_,_,_,_,_,_,_,_,_,_,_),(_,_,_,_,_,_,_,_,_,_,_,_),(_,_,_,_,_,_,_,_,_,_,_,_),(_,_,_,_,_,_,_,_,_,_,_,_)] rfl (by decide) rfl) rfl rfl ?_
  refine s2 (r:=rCl) (H8 [(_,_,_,_,_,_,_,_,_,_,_,_),(_,_,_,_,_,_,_,_,_,_,_,_),(_,_,_,_,_,_,_,_,_,_,_,_),(_,_,_,_,_,_,_,_,_,_,_,_),(_,_,_,_,_,_,_,_,_,_,_,_),(_,_,_,_,_,_,_,_,_,_,_,_)] rfl (by decide) rfl) rfl rfl ?_
  refine s2 (r:=rRw) (H8 [(_,_),(_,_),(_,_)] rfl (by decide) rfl) rfl rfl ?_
  refine s31 (c8 _ (by decide +kernel)) rfl ?_
  refine s1 (G2 _ _ _) rfl rfl rfl ?_
  refine s4 rfl (fun g8=>?_) fun g8=>?_
  ·refine s8 ?_
   (exact absurd (by decide +kernel) g8)
  refine s2 (r:=rCl) (H8 [(_,_,_,_,_,_,_,_,_,_,_,_),(_,_,_,_,_,_,_,_,_,_,_,_),(_,_,_,_,_,_,_,_,_,_,_,_),(_,_,_,_,_,_,_,_,_,_,_,_),(_,_,_,_,_,_,_,_,_,_,_,_),(_,_,_,_,_,_,_,_,_,_,_,_)] rfl (by decide) rfl) rfl rfl ?_
  refine s2 (r:=rCl) (H8 [(_,_,_,_,_,_,_,_,_,_,_,_),(_,_,_,_,_,_,_,_,_,_,_,_),(_,_,_,_,_,_,_,_,_,_,_,_),(_,_,_,_,_,_,_,_,_,_,_,_),(_,_,_,_,_,_,_,_,_,_,_,_),(_,_,_,_,_,_,_,_,_,_,_,_)] rfl (by decide) rfl) rfl rfl ?_
  refine s2 (r:=rCl) (H8 [(_,_,_,_,_,_,_,_,_,_,_,_),(_,_,_,_,_,_,_,_,_,_,_,_),(_,_,_,_,_,_,_,_,_,_,_,_),(_,_,_,_,_,_,_,_,_,_,_,_),(_,_,_,_,_,_,_,_,_,_,_,_),(_,_,_,_,_,_,_,_,_,_,_,_)] rfl (by decide) rfl) rfl rfl ?_
  refine s2 (r:=rRw) (H8 [(_,_),(_,_),(_,_)] rfl (by decide) rfl) rfl rfl ?_
  refine s31 (c8 _ (by decide +kernel)) rfl ?_
  refine s1 (G2 _ _ _) rfl rfl rfl ?_
  refine s4 rfl (fun g9=>?_) fun g9=>?_
  ·refine s8 ?_
   (exact absurd (by decide +kernel) g9)
  refine s2 (r:=rCl) (H8 [(_,_,_,_,_,_,_,_,_,_,_,_),(_,_,_,_,_,_,_,_,_,_,_,_),(_,_,_,_,_,_,_,_,_,_,_,_),(_,_,_,_,_,_,_,_,_,_,_,_),(_,_,_,_,_,_,_,_,_,_,_,_),(_,_,_,_,_,_,_,_,_,_,_,_)] rfl (by decide) rfl) rfl rfl ?_
  refine s2 (r:=rCl) (H8 [(_,_,_,_,_,_,_,_,_,_,_,_),(_,_,_,_,_,_,_,_,_,_,_,_),(_,_,_,_,_,_,_,_,_,_,_,_),(_,_,_,_,_,_,_,_,_,_,_,_),(_,_,_,_,_,_,_,_,_,_,_,_),(_,_,_,_,_,_,_,_,_,_,_,_)] rfl (by decide) rfl) rfl rfl ?_
  refine s2 (r:=rCl) (H8 [(_,_,_,_,_,_,_,_,_,_,_,_),(_,_,_,_,_,_,_,_,_,_,_,_),(_,_,_,_,_,_,_,_,_,_,_,_),(_,_,_,_,_,_,_,_,_,_,_,_),(_,_,_,_,_,_,_,_,_,_,_,_),(_,_,_,_,_,_,_,_,_,_,_,_)] rfl (by decide) rfl) rfl rfl ?_
  refine s2 (r:=rRw) (H8 [(_,_),(_,_),(_,_)] rfl (by decide) rfl) rfl rfl ?_
  refine s31 (c8 _ (by decide +kernel)) rfl ?_
  refine s1 (G2 _ _ _) rfl rfl rfl ?_
  refine s4 rfl (fun g10=>?_) fun g10=>?_
  ·refine s8 ?_
   (exact absurd (by decide +kernel) g10)
  refine s7 [.bool _] rfl ?_
  first|rfl|(simp [*]; done)|(simp [*]; omega)
 ·cases hs
noncomputable def C0F:List (FuncId × FnC):=L0
theorem B67 {G:Nat→Option Obj} (hst:C3 Tryd.prog G gl H0 n0):I2 Tryd.prog G gl C0F:=.nil
def A5B:List U→Option (Nat × List U)
 | [.int .i64 k,.int .i64 n]=>some (0,[.int .i64 (d8 k n)])
 | _=>none
theorem A8C (k:Int) (n:Int):A5B [.int .i64 k,.int .i64 n]=some (0,[.int .i64 (d8 k n)]):=rfl
def B8Q:Tr:=.lt 8 (.bin .eql) [h 0 3,jI 0] <| .br 2 (.lt 8 (.bin .eql) [h 1 3,jI 0] <| .br 3 (.ret [jI 0]) (.ret [jI 130])) (.lt 8 (.bin .eql) [h 0 3,jI 1] <| .br 3 (.lt 8 (.bin .geq) [h 1 3,jI 0] <| .br 4 (.lt 8 (.bin .leq) [h 1 3,jI 255] <| .br 5 (.ret [jI 0]) (.ret [jI 130])) (.ret [jI 130])) (.lt 8 (.bin .eql) [h 0 3,jI 2] <| .br 4 (.lt 8 (.bin .geq) [h 1 3,jI 0] <| .br 5 (.lt 8 (.bin .leq) [h 1 3,jI 16777215] <| .br 6 (.ret [jI 0]) (.ret [jI 130])) (.ret [jI 130])) (.ret [jI 130])))
theorem C47 {G:Nat→Option Obj} (hst:C3 Tryd.prog G gl H0 n0):Q2 Tryd.prog G 112 [.a [3,3]] A5B [.s 3]:=by
 refine F2 (C:=cx C0F []) (d:=60) B8Q (cxg (B67 hst) .nil) hst ⟨Tryd.f112,_,Tryd.func112,rfl⟩ (by kernel_rfl) (by kernel_rfl) ?_
 intro us outs hs
 unfold A5B at hs
 split at hs
 ·skip
  rename_i k n
  cases hs
  unfold B8Q
  refine s0 (.cons 1 _ (.cons 0 _ (.nil))) rfl (by simp [Ev.ok,Ev.len]) ?_
  refine s1 (D9 _ _ _) rfl rfl rfl ?_
  refine s4 rfl (fun g0=>?_) fun g0=>?_
  ·refine s1 (D9 _ _ _) rfl rfl rfl ?_
   refine s4 rfl (fun g1=>?_) fun g1=>?_
   ·refine s7 [.int .i64 _] rfl ?_
    simp only [d8]; first|(rw [if_pos (by omega)]; done)|(rw [if_neg (by omega)]; done)|((obtain rfl|rfl|rfl:k=0∨k=1∨k=2:=(by omega)) <;> simp at * <;> first|(rw [if_pos (by omega)]; done)|(rw [if_neg (by omega)]; done)|omega)
   refine s7 [.int .i64 _] rfl ?_
   simp only [d8]; first|(rw [if_pos (by omega)]; done)|(rw [if_neg (by omega)]; done)|((obtain rfl|rfl|rfl:k=0∨k=1∨k=2:=(by omega)) <;> simp at * <;> first|(rw [if_pos (by omega)]; done)|(rw [if_neg (by omega)]; done)|omega)
  refine s1 (D9 _ _ _) rfl rfl rfl ?_
  refine s4 rfl (fun g1=>?_) fun g1=>?_
  ·refine s1 (H9 _ _ _) rfl rfl rfl ?_
   refine s5 rfl (fun g2=>?_) fun g2=>?_
   ·refine s7 [.int .i64 _] rfl ?_
    simp only [d8]; first|(rw [if_pos (by omega)]; done)|(rw [if_neg (by omega)]; done)|((obtain rfl|rfl|rfl:k=0∨k=1∨k=2:=(by omega)) <;> simp at * <;> first|(rw [if_pos (by omega)]; done)|(rw [if_neg (by omega)]; done)|omega)
   refine s1 (P2 _ _ _) rfl rfl rfl ?_
   refine s4 rfl (fun g3=>?_) fun g3=>?_
   ·refine s7 [.int .i64 _] rfl ?_
    simp only [d8]; first|(rw [if_pos (by omega)]; done)|(rw [if_neg (by omega)]; done)|((obtain rfl|rfl|rfl:k=0∨k=1∨k=2:=(by omega)) <;> simp at * <;> first|(rw [if_pos (by omega)]; done)|(rw [if_neg (by omega)]; done)|omega)
   refine s7 [.int .i64 _] rfl ?_
   simp only [d8]; first|(rw [if_pos (by omega)]; done)|(rw [if_neg (by omega)]; done)|((obtain rfl|rfl|rfl:k=0∨k=1∨k=2:=(by omega)) <;> simp at * <;> first|(rw [if_pos (by omega)]; done)|(rw [if_neg (by omega)]; done)|omega)
  refine s1 (D9 _ _ _) rfl rfl rfl ?_
  refine s5 rfl (fun g2=>?_) fun g2=>?_
  ·refine s7 [.int .i64 _] rfl ?_
   simp only [d8]; first|(rw [if_pos (by omega)]; done)|(rw [if_neg (by omega)]; done)|((obtain rfl|rfl|rfl:k=0∨k=1∨k=2:=(by omega)) <;> simp at * <;> first|(rw [if_pos (by omega)]; done)|(rw [if_neg (by omega)]; done)|omega)
  refine s1 (H9 _ _ _) rfl rfl rfl ?_
  refine s5 rfl (fun g3=>?_) fun g3=>?_
  ·refine s7 [.int .i64 _] rfl ?_
   simp only [d8]; first|(rw [if_pos (by omega)]; done)|(rw [if_neg (by omega)]; done)|((obtain rfl|rfl|rfl:k=0∨k=1∨k=2:=(by omega)) <;> simp at * <;> first|(rw [if_pos (by omega)]; done)|(rw [if_neg (by omega)]; done)|omega)
  refine s1 (P2 _ _ _) rfl rfl rfl ?_
  refine s4 rfl (fun g4=>?_) fun g4=>?_
  ·refine s7 [.int .i64 _] rfl ?_
   simp only [d8]; first|(rw [if_pos (by omega)]; done)|(rw [if_neg (by omega)]; done)|((obtain rfl|rfl|rfl:k=0∨k=1∨k=2:=(by omega)) <;> simp at * <;> first|(rw [if_pos (by omega)]; done)|(rw [if_neg (by omega)]; done)|omega)
  refine s7 [.int .i64 _] rfl ?_
  simp only [d8]; first|(rw [if_pos (by omega)]; done)|(rw [if_neg (by omega)]; done)|((obtain rfl|rfl|rfl:k=0∨k=1∨k=2:=(by omega)) <;> simp at * <;> first|(rw [if_pos (by omega)]; done)|(rw [if_neg (by omega)]; done)|omega)
 ·cases hs
noncomputable def B94:List (FuncId × FnC):=(112,M9 Tryd.prog [.a [3,3]] A5B [.s 3])::L0
theorem B63 {G:Nat→Option Obj} (hst:C3 Tryd.prog G gl H0 n0):I2 Tryd.prog G gl B94:=(.cons (C47 hst) .nil)
def A72:List U→Option (Nat × List U)
 | [.int .i64 a,.int .i64 u,.int .i64 fk,.int .i64 fn,.int .i64 bk,.int .i64 bn,.int .i64 lk,.int .i64 ln]=>some (0,[.int .i64 (A3H a u fk fn bk bn lk ln)])
 | _=>none
theorem B71 (a:Int) (u:Int) (fk:Int) (fn:Int) (bk:Int) (bn:Int) (lk:Int) (ln:Int):A72 [.int .i64 a,.int .i64 u,.int .i64 fk,.int .i64 fn,.int .i64 bk,.int .i64 bn,.int .i64 lk,.int .i64 ln]=some (0,[.int .i64 (A3H a u fk fn bk bn lk ln)]):=rfl
def B70:Tr:=.lt 8 (.bin .lss) [h 0 3,jI 0] <| .br 8 (.ret [jI 140]) (.lt 8 (.bin .gtr) [h 0 3,jI 255] <| .br 9 (.ret [jI 140]) (.lt 8 (.bin .lss) [h 1 3,jI 0] <| .br 10 (.ret [jI 140]) (.lt 8 (.bin .gtr) [h 1 3,jI 5] <| .br 11 (.ret [jI 140]) (.fn A5B [h 2 3,h 3 3] 1 <| .lt 8 (.bin .neq) [h 12 3,jI 0] <| .br 13 (.ret [h 12 3]) (.fn A5B [h 4 3,h 5 3] 1 <| .lt 8 (.bin .neq) [h 14 3,jI 0] <| .br 15 (.ret [h 14 3]) (.fn A5B [h 6 3,h 7 3] 1 <| .lt 8 (.bin .neq) [h 16 3,jI 0] <| .br 17 (.ret [h 16 3]) (.ret [jI 0])))))))
theorem C43 {G:Nat→Option Obj} (hst:C3 Tryd.prog G gl H0 n0):Q2 Tryd.prog G 108 [.a [3,3,3,3,3,3,3,3]] A72 [.s 3]:=by
 refine F2 (C:=cx B94 []) (d:=60) B70 (cxg (B63 hst) .nil) hst ⟨Tryd.f108,_,Tryd.func108,rfl⟩ (by kernel_rfl) (by kernel_rfl) ?_
 intro us outs hs
 unfold A72 at hs
 split at hs
 ·skip
  rename_i a u fk fn bk bn lk ln
  cases hs
  unfold B70
  refine s0 (.cons 7 _ (.cons 6 _ (.cons 5 _ (.cons 4 _ (.cons 3 _ (.cons 2 _ (.cons 1 _ (.cons 0 _ (.nil))))))))) rfl (by simp [Ev.ok,Ev.len]) ?_
  refine s1 (K9 _ _ _) rfl rfl rfl ?_
  refine s4 rfl (fun g0=>?_) fun g0=>?_
  ·refine s7 [.int .i64 _] rfl ?_
   refine congrArg (fun z=>[U.int .i64 z]) ?_; symm; first|exact o9 (by omega)|exact o8 (by omega) ‹_›|exact o7 (by omega) ‹_› ‹_›|exact i7 (by omega) ‹_› ‹_›|exact p7 (by omega) ‹_› ‹_› ‹_›
  refine s1 (A0Y _ _ _) rfl rfl rfl ?_
  refine s4 rfl (fun g1=>?_) fun g1=>?_
  ·refine s7 [.int .i64 _] rfl ?_
   refine congrArg (fun z=>[U.int .i64 z]) ?_; symm; first|exact o9 (by omega)|exact o8 (by omega) ‹_›|exact o7 (by omega) ‹_› ‹_›|exact i7 (by omega) ‹_› ‹_›|exact p7 (by omega) ‹_› ‹_› ‹_›
  refine s1 (K9 _ _ _) rfl rfl rfl ?_
  refine s4 rfl (fun g2=>?_) fun g2=>?_
  ·refine s7 [.int .i64 _] rfl ?_
   refine congrArg (fun z=>[U.int .i64 z]) ?_; symm; first|exact o9 (by omega)|exact o8 (by omega) ‹_›|exact o7 (by omega) ‹_› ‹_›|exact i7 (by omega) ‹_› ‹_›|exact p7 (by omega) ‹_› ‹_› ‹_›
  refine s1 (A0Y _ _ _) rfl rfl rfl ?_
  refine s4 rfl (fun g3=>?_) fun g3=>?_
  ·refine s7 [.int .i64 _] rfl ?_
   refine congrArg (fun z=>[U.int .i64 z]) ?_; symm; first|exact o9 (by omega)|exact o8 (by omega) ‹_›|exact o7 (by omega) ‹_› ‹_›|exact i7 (by omega) ‹_› ‹_›|exact p7 (by omega) ‹_› ‹_› ‹_›
  refine s31 (A8C _ _) rfl ?_
  refine s1 (G2 _ _ _) rfl rfl rfl ?_
  refine s4 rfl (fun g4=>?_) fun g4=>?_
  ·refine s7 [.int .i64 _] rfl ?_
   refine congrArg (fun z=>[U.int .i64 z]) ?_; symm; first|exact o9 (by omega)|exact o8 (by omega) ‹_›|exact o7 (by omega) ‹_› ‹_›|exact i7 (by omega) ‹_› ‹_›|exact p7 (by omega) ‹_› ‹_› ‹_›
  refine s31 (A8C _ _) rfl ?_
  refine s1 (G2 _ _ _) rfl rfl rfl ?_
  refine s4 rfl (fun g5=>?_) fun g5=>?_
  ·refine s7 [.int .i64 _] rfl ?_
   refine congrArg (fun z=>[U.int .i64 z]) ?_; symm; first|exact o9 (by omega)|exact o8 (by omega) ‹_›|exact o7 (by omega) ‹_› ‹_›|exact i7 (by omega) ‹_› ‹_›|exact p7 (by omega) ‹_› ‹_› ‹_›
  refine s31 (A8C _ _) rfl ?_
  refine s1 (G2 _ _ _) rfl rfl rfl ?_
  refine s4 rfl (fun g6=>?_) fun g6=>?_
  ·refine s7 [.int .i64 _] rfl ?_
   refine congrArg (fun z=>[U.int .i64 z]) ?_; symm; first|exact o9 (by omega)|exact o8 (by omega) ‹_›|exact o7 (by omega) ‹_› ‹_›|exact i7 (by omega) ‹_› ‹_›|exact p7 (by omega) ‹_› ‹_› ‹_›
  refine s7 [.int .i64 _] rfl ?_
  refine congrArg (fun z=>[U.int .i64 z]) ?_; symm; first|exact o9 (by omega)|exact o8 (by omega) ‹_›|exact o7 (by omega) ‹_› ‹_›|exact i7 (by omega) ‹_› ‹_›|exact p7 (by omega) ‹_› ‹_› ‹_›
 ·cases hs
noncomputable def C4H:List (FuncId × FnC):=L0
theorem B95 {G:Nat→Option Obj} (hst:C3 Tryd.prog G gl H0 n0):I2 Tryd.prog G gl C4H:=.nil
def B2L:List U→Option (Nat × List U)
 | [.int .i64 b,.int .i64 m0,.int .i64 m1,.int .i64 wd,.int .i64 at_,.int .i64 un,.int .i64 fk,.int .i64 fn,.int .i64 bk,.int .i64 bn,.int .i64 lk,.int .i64 ln]=>some (0,[.bool (decide (b=0∧m0=0∧m1=0∧wd=2))])
 | _=>none
theorem C06 (b:Int) (m0:Int) (m1:Int) (wd:Int) (at_:Int) (un:Int) (fk:Int) (fn:Int) (bk:Int) (bn:Int) (lk:Int) (ln:Int):B2L [.int .i64 b,.int .i64 m0,.int .i64 m1,.int .i64 wd,.int .i64 at_,.int .i64 un,.int .i64 fk,.int .i64 fn,.int .i64 bk,.int .i64 bn,.int .i64 lk,.int .i64 ln]=some (0,[.bool (decide (b=0∧m0=0∧m1=0∧wd=2))]):=rfl
def C2y:Tr:=.lt 8 (.bin .eql) [h 0 3,jI 0] <| .br 12 (.lt 8 (.eqs) [h 1 3,jI 0,h 2 3,jI 0] <| .br 13 (.lt 8 (.bin .eql) [h 3 3,jI 2] <| .ret [h 14 8]) (.ret [.bool false])) (.ret [.bool false])
theorem C5p {G:Nat→Option Obj} (hst:C3 Tryd.prog G gl H0 n0):Q2 Tryd.prog G 109 [.a [3,3,3,3,3,3,3,3,3,3,3,3]] B2L [.s 8]:=by
 refine F2 (C:=cx C4H []) (d:=60) C2y (cxg (B95 hst) .nil) hst ⟨Tryd.f109,_,Tryd.func109,rfl⟩ (by kernel_rfl) (by kernel_rfl) ?_
 intro us outs hs
 unfold B2L at hs
 split at hs
 ·skip
  rename_i b m0 m1 wd at_ un fk fn bk bn lk ln
  cases hs
  unfold C2y
  refine s0 (.cons 11 _ (.cons 10 _ (.cons 9 _ (.cons 8 _ (.cons 7 _ (.cons 6 _ (.cons 5 _ (.cons 4 _ (.cons 3 _ (.cons 2 _ (.cons 1 _ (.cons 0 _ (.nil))))))))))))) rfl (by simp [Ev.ok,Ev.len]) ?_
  refine s1 (D9 _ _ _) rfl rfl rfl ?_
  refine s5 rfl (fun g0=>?_) fun g0=>?_
  ·refine s7 [.bool _] rfl ?_
   refine congrArg (fun z=>[U.bool z]) ?_; symm; simp at *; first|omega|simp [*]
  refine s1 rfl rfl rfl rfl ?_
  first|refine s5 rfl (fun g1=>?_) (fun g1=>?_)|refine s5B rfl (fun g1=>?_) (fun g1=>?_)
  ·refine s7 [.bool _] rfl ?_
   refine congrArg (fun z=>[U.bool z]) ?_; symm; simp at *; first|omega|simp [*]
  refine s1 (D9 _ _ _) rfl rfl rfl ?_
  refine s7 [.bool _] rfl ?_
  refine congrArg (fun z=>[U.bool z]) ?_; symm; simp at *; first|omega|simp [*]
 ·cases hs
noncomputable def C0H:List (FuncId × FnC):=(89,M9 Tryd.prog [.s 3] A2R [.s 3])::(108,M9 Tryd.prog [.a [3,3,3,3,3,3,3,3]] A72 [.s 3])::(109,M9 Tryd.prog [.a [3,3,3,3,3,3,3,3,3,3,3,3]] B2L [.s 8])::L0
theorem B68 {G:Nat→Option Obj} (hst:C3 Tryd.prog G gl H0 n0):I2 Tryd.prog G gl C0H:=(.cons (C2n hst) (.cons (C43 hst) (.cons (C5p hst) .nil)))
def A6S:List U→Option (Nat × List U)
 | [.int .i64 b,.int .i64 m0,.int .i64 m1,.int .i64 wd,.int .i64 at_,.int .i64 un,.int .i64 fk,.int .i64 fn,.int .i64 bk,.int .i64 bn,.int .i64 lk,.int .i64 ln]=>some (0,[.int .i64 (A31 b m0 m1 wd at_ un fk fn bk bn lk ln)])
 | _=>none
theorem B8S (b:Int) (m0:Int) (m1:Int) (wd:Int) (at_:Int) (un:Int) (fk:Int) (fn:Int) (bk:Int) (bn:Int) (lk:Int) (ln:Int):A6S [.int .i64 b,.int .i64 m0,.int .i64 m1,.int .i64 wd,.int .i64 at_,.int .i64 un,.int .i64 fk,.int .i64 fn,.int .i64 bk,.int .i64 bn,.int .i64 lk,.int .i64 ln]=some (0,[.int .i64 (A31 b m0 m1 wd at_ un fk fn bk bn lk ln)]):=rfl
def B8R:Tr:=.fn A72 [h 4 3,h 5 3,h 6 3,h 7 3,h 8 3,h 9 3,h 10 3,h 11 3] 1 <| .lt 8 (.bin .neq) [h 12 3,jI 0] <| .br 13 (.ret [jI 221]) (.fn B2L [h 0 3,h 1 3,h 2 3,h 3 3,h 4 3,h 5 3,h 6 3,h 7 3,h 8 3,h 9 3,h 10 3,h 11 3] 1 <| .br 14 (.ret [jI 0]) (.lt 8 (.bin .neq) [h 1 3,jI 0] <| .br 15 (.fn A2R [h 1 3] 1 <| .lt 8 (.bin .neq) [h 16 3,jI 0] <| .br 17 (.ret [jI 221]) (.lt 8 (.bin .neq) [h 2 3,jI 0] <| .br 18 (.fn A2R [h 2 3] 1 <| .lt 8 (.bin .neq) [h 19 3,jI 0] <| .br 20 (.ret [jI 221]) (.lt 8 (.bin .eql) [h 1 3,jI 0] <| .br 21 (.ret [jI 221]) (.fn A2R [h 0 3] 1 <| .lt 8 (.bin .eql) [h 22 3,jI 1] <| .br 23 (.lt 8 (.bin .eql) [h 3 3,jI 0] <| .br 24 (.ret [jI 0]) (.lt 8 (.bin .eql) [h 22 3,jI 2] <| .br 25 (.lt 8 (.bin .eql) [h 3 3,jI 1] <| .br 26 (.ret [jI 0]) (.ret [jI 221])) (.ret [jI 221]))) (.lt 8 (.bin .eql) [h 22 3,jI 2] <| .br 24 (.lt 8 (.bin .eql) [h 3 3,jI 1] <| .br 25 (.ret [jI 0]) (.ret [jI 221])) (.ret [jI 221]))))) (.fn A2R [h 0 3] 1 <| .lt 8 (.bin .eql) [h 19 3,jI 1] <| .br 20 (.lt 8 (.bin .eql) [h 3 3,jI 0] <| .br 21 (.ret [jI 0]) (.lt 8 (.bin .eql) [h 19 3,jI 2] <| .br 22 (.lt 8 (.bin .eql) [h 3 3,jI 1] <| .br 23 (.ret [jI 0]) (.ret [jI 221])) (.ret [jI 221]))) (.lt 8 (.bin .eql) [h 19 3,jI 2] <| .br 21 (.lt 8 (.bin .eql) [h 3 3,jI 1] <| .br 22 (.ret [jI 0]) (.ret [jI 221])) (.ret [jI 221]))))) (.lt 8 (.bin .neq) [h 2 3,jI 0] <| .br 16 (.fn A2R [h 2 3] 1 <| .lt 8 (.bin .neq) [h 17 3,jI 0] <| .br 18 (.ret [jI 221]) (.lt 8 (.bin .eql) [h 1 3,jI 0] <| .br 19 (.ret [jI 221]) (.fn A2R [h 0 3] 1 <| .lt 8 (.bin .eql) [h 20 3,jI 1] <| .br 21 (.lt 8 (.bin .eql) [h 3 3,jI 0] <| .br 22 (.ret [jI 0]) (.lt 8 (.bin .eql) [h 20 3,jI 2] <| .br 23 (.lt 8 (.bin .eql) [h 3 3,jI 1] <| .br 24 (.ret [jI 0]) (.ret [jI 221])) (.ret [jI 221]))) (.lt 8 (.bin .eql) [h 20 3,jI 2] <| .br 22 (.lt 8 (.bin .eql) [h 3 3,jI 1] <| .br 23 (.ret [jI 0]) (.ret [jI 221])) (.ret [jI 221]))))) (.fn A2R [h 0 3] 1 <| .lt 8 (.bin .eql) [h 17 3,jI 1] <| .br 18 (.lt 8 (.bin .eql) [h 3 3,jI 0] <| .br 19 (.ret [jI 0]) (.lt 8 (.bin .eql) [h 17 3,jI 2] <| .br 20 (.lt 8 (.bin .eql) [h 3 3,jI 1] <| .br 21 (.ret [jI 0]) (.ret [jI 221])) (.ret [jI 221]))) (.lt 8 (.bin .eql) [h 17 3,jI 2] <| .br 19 (.lt 8 (.bin .eql) [h 3 3,jI 1] <| .br 20 (.ret [jI 0]) (.ret [jI 221])) (.ret [jI 221]))))))
theorem B8T {G:Nat→Option Obj} (hst:C3 Tryd.prog G gl H0 n0):Q2 Tryd.prog G 96 [.a [3,3,3,3,3,3,3,3,3,3,3,3]] A6S [.s 3]:=by
 refine F2 (C:=cx C0H []) (d:=60) B8R (cxg (B68 hst) .nil) hst ⟨Tryd.f96,_,Tryd.func96,rfl⟩ (by kernel_rfl) (by kernel_rfl) ?_
 intro us outs hs
 unfold A6S at hs
 split at hs
 ·skip
  rename_i b m0 m1 wd at_ un fk fn bk bn lk ln
  cases hs
  unfold B8R
  refine s0 (.cons 11 _ (.cons 10 _ (.cons 9 _ (.cons 8 _ (.cons 7 _ (.cons 6 _ (.cons 5 _ (.cons 4 _ (.cons 3 _ (.cons 2 _ (.cons 1 _ (.cons 0 _ (.nil))))))))))))) rfl (by simp [Ev.ok,Ev.len]) ?_
  refine s31 (B71 _ _ _ _ _ _ _ _) rfl ?_
  refine s1 (G2 _ _ _) rfl rfl rfl ?_
  refine s4 rfl (fun g0=>?_) fun g0=>?_
  ·refine s7 [.int .i64 _] rfl ?_
   first|exact G9 ‹_›|exact F0 (by unfold G3; omega) (by omega)|exact H1 (by unfold G3; omega)
  refine s31 (C06 _ _ _ _ _ _ _ _ _ _ _ _) rfl ?_
  first|refine s4 rfl (fun g1=>?_) (fun g1=>?_)|refine s4B rfl (fun g1=>?_) (fun g1=>?_)
  ·refine s7 [.int .i64 _] rfl ?_
   first|exact G9 ‹_›|exact F0 (by unfold G3; omega) (by omega)|exact H1 (by unfold G3; omega)
  refine s1 (G2 _ _ _) rfl rfl rfl ?_
  refine s4 rfl (fun g2=>?_) fun g2=>?_
  ·refine s31 (A1y _) rfl ?_
   refine s1 (G2 _ _ _) rfl rfl rfl ?_
   refine s4 rfl (fun g3=>?_) fun g3=>?_
   ·refine s7 [.int .i64 _] rfl ?_
    first|exact G9 ‹_›|exact F0 (by unfold G3; omega) (by omega)|exact H1 (by unfold G3; omega)
   refine s1 (G2 _ _ _) rfl rfl rfl ?_
   refine s4 rfl (fun g4=>?_) fun g4=>?_
   ·refine s31 (A1y _) rfl ?_
    refine s1 (G2 _ _ _) rfl rfl rfl ?_
    refine s4 rfl (fun g5=>?_) fun g5=>?_
    ·refine s7 [.int .i64 _] rfl ?_
     first|exact G9 ‹_›|exact F0 (by unfold G3; omega) (by omega)|exact H1 (by unfold G3; omega)
    refine s1 (D9 _ _ _) rfl rfl rfl ?_
    refine s4 rfl (fun g6=>?_) fun g6=>?_
    ·refine s7 [.int .i64 _] rfl ?_
     first|exact G9 ‹_›|exact F0 (by unfold G3; omega) (by omega)|exact H1 (by unfold G3; omega)
    refine s31 (A1y _) rfl ?_
    refine s1 (D9 _ _ _) rfl rfl rfl ?_
    refine s4 rfl (fun g7=>?_) fun g7=>?_
    ·refine s1 (D9 _ _ _) rfl rfl rfl ?_
     refine s4 rfl (fun g8=>?_) fun g8=>?_
     ·refine s7 [.int .i64 _] rfl ?_
      first|exact G9 ‹_›|exact F0 (by unfold G3; omega) (by omega)|exact H1 (by unfold G3; omega)
     refine s1 (D9 _ _ _) rfl rfl rfl ?_
     refine s5 rfl (fun g9=>?_) fun g9=>?_
     ·refine s7 [.int .i64 _] rfl ?_
      first|exact G9 ‹_›|exact F0 (by unfold G3; omega) (by omega)|exact H1 (by unfold G3; omega)
     refine s1 (D9 _ _ _) rfl rfl rfl ?_
     refine s4 rfl (fun g10=>?_) fun g10=>?_
     ·refine s7 [.int .i64 _] rfl ?_
      first|exact G9 ‹_›|exact F0 (by unfold G3; omega) (by omega)|exact H1 (by unfold G3; omega)
     refine s7 [.int .i64 _] rfl ?_
     first|exact G9 ‹_›|exact F0 (by unfold G3; omega) (by omega)|exact H1 (by unfold G3; omega)
    refine s1 (D9 _ _ _) rfl rfl rfl ?_
    refine s5 rfl (fun g8=>?_) fun g8=>?_
    ·refine s7 [.int .i64 _] rfl ?_
     first|exact G9 ‹_›|exact F0 (by unfold G3; omega) (by omega)|exact H1 (by unfold G3; omega)
    refine s1 (D9 _ _ _) rfl rfl rfl ?_
    refine s4 rfl (fun g9=>?_) fun g9=>?_
    ·refine s7 [.int .i64 _] rfl ?_
     first|exact G9 ‹_›|exact F0 (by unfold G3; omega) (by omega)|exact H1 (by unfold G3; omega)
    refine s7 [.int .i64 _] rfl ?_
    first|exact G9 ‹_›|exact F0 (by unfold G3; omega) (by omega)|exact H1 (by unfold G3; omega)
   refine s31 (A1y _) rfl ?_
   refine s1 (D9 _ _ _) rfl rfl rfl ?_
   refine s4 rfl (fun g5=>?_) fun g5=>?_
   ·refine s1 (D9 _ _ _) rfl rfl rfl ?_
    refine s4 rfl (fun g6=>?_) fun g6=>?_
    ·refine s7 [.int .i64 _] rfl ?_
     first|exact G9 ‹_›|exact F0 (by unfold G3; omega) (by omega)|exact H1 (by unfold G3; omega)
    refine s1 (D9 _ _ _) rfl rfl rfl ?_
    refine s5 rfl (fun g7=>?_) fun g7=>?_
    ·refine s7 [.int .i64 _] rfl ?_
     first|exact G9 ‹_›|exact F0 (by unfold G3; omega) (by omega)|exact H1 (by unfold G3; omega)
    refine s1 (D9 _ _ _) rfl rfl rfl ?_
    refine s4 rfl (fun g8=>?_) fun g8=>?_
    ·refine s7 [.int .i64 _] rfl ?_
     first|exact G9 ‹_›|exact F0 (by unfold G3; omega) (by omega)|exact H1 (by unfold G3; omega)
    refine s7 [.int .i64 _] rfl ?_
    first|exact G9 ‹_›|exact F0 (by unfold G3; omega) (by omega)|exact H1 (by unfold G3; omega)
   refine s1 (D9 _ _ _) rfl rfl rfl ?_
   refine s5 rfl (fun g6=>?_) fun g6=>?_
   ·refine s7 [.int .i64 _] rfl ?_
    first|exact G9 ‹_›|exact F0 (by unfold G3; omega) (by omega)|exact H1 (by unfold G3; omega)
   refine s1 (D9 _ _ _) rfl rfl rfl ?_
   refine s4 rfl (fun g7=>?_) fun g7=>?_
   ·refine s7 [.int .i64 _] rfl ?_
    first|exact G9 ‹_›|exact F0 (by unfold G3; omega) (by omega)|exact H1 (by unfold G3; omega)
   refine s7 [.int .i64 _] rfl ?_
   first|exact G9 ‹_›|exact F0 (by unfold G3; omega) (by omega)|exact H1 (by unfold G3; omega)
  refine s1 (G2 _ _ _) rfl rfl rfl ?_
  refine s4 rfl (fun g3=>?_) fun g3=>?_
  ·refine s31 (A1y _) rfl ?_
   refine s1 (G2 _ _ _) rfl rfl rfl ?_
   refine s4 rfl (fun g4=>?_) fun g4=>?_
   ·refine s7 [.int .i64 _] rfl ?_
    first|exact G9 ‹_›|exact F0 (by unfold G3; omega) (by omega)|exact H1 (by unfold G3; omega)
   refine s1 (D9 _ _ _) rfl rfl rfl ?_
   refine s4 rfl (fun g5=>?_) fun g5=>?_
   ·refine s7 [.int .i64 _] rfl ?_
    first|exact G9 ‹_›|exact F0 (by unfold G3; omega) (by omega)|exact H1 (by unfold G3; omega)
   refine s31 (A1y _) rfl ?_
   refine s1 (D9 _ _ _) rfl rfl rfl ?_
   refine s4 rfl (fun g6=>?_) fun g6=>?_
   ·refine s1 (D9 _ _ _) rfl rfl rfl ?_
    refine s4 rfl (fun g7=>?_) fun g7=>?_
    ·refine s7 [.int .i64 _] rfl ?_
     first|exact G9 ‹_›|exact F0 (by unfold G3; omega) (by omega)|exact H1 (by unfold G3; omega)
    refine s1 (D9 _ _ _) rfl rfl rfl ?_
    refine s5 rfl (fun g8=>?_) fun g8=>?_
    ·refine s7 [.int .i64 _] rfl ?_
     first|exact G9 ‹_›|exact F0 (by unfold G3; omega) (by omega)|exact H1 (by unfold G3; omega)
    refine s1 (D9 _ _ _) rfl rfl rfl ?_
    refine s4 rfl (fun g9=>?_) fun g9=>?_
    ·refine s7 [.int .i64 _] rfl ?_
     first|exact G9 ‹_›|exact F0 (by unfold G3; omega) (by omega)|exact H1 (by unfold G3; omega)
    refine s7 [.int .i64 _] rfl ?_
    first|exact G9 ‹_›|exact F0 (by unfold G3; omega) (by omega)|exact H1 (by unfold G3; omega)
   refine s1 (D9 _ _ _) rfl rfl rfl ?_
   refine s5 rfl (fun g7=>?_) fun g7=>?_
   ·refine s7 [.int .i64 _] rfl ?_
    first|exact G9 ‹_›|exact F0 (by unfold G3; omega) (by omega)|exact H1 (by unfold G3; omega)
   refine s1 (D9 _ _ _) rfl rfl rfl ?_
   refine s4 rfl (fun g8=>?_) fun g8=>?_
   ·refine s7 [.int .i64 _] rfl ?_
    first|exact G9 ‹_›|exact F0 (by unfold G3; omega) (by omega)|exact H1 (by unfold G3; omega)
   refine s7 [.int .i64 _] rfl ?_
   first|exact G9 ‹_›|exact F0 (by unfold G3; omega) (by omega)|exact H1 (by unfold G3; omega)
  refine s31 (A1y _) rfl ?_
  refine s1 (D9 _ _ _) rfl rfl rfl ?_
  refine s4 rfl (fun g4=>?_) fun g4=>?_
  ·refine s1 (D9 _ _ _) rfl rfl rfl ?_
   refine s4 rfl (fun g5=>?_) fun g5=>?_
   ·refine s7 [.int .i64 _] rfl ?_
    first|exact G9 ‹_›|exact F0 (by unfold G3; omega) (by omega)|exact H1 (by unfold G3; omega)
   refine s1 (D9 _ _ _) rfl rfl rfl ?_
   refine s5 rfl (fun g6=>?_) fun g6=>?_
   ·refine s7 [.int .i64 _] rfl ?_
    first|exact G9 ‹_›|exact F0 (by unfold G3; omega) (by omega)|exact H1 (by unfold G3; omega)
   refine s1 (D9 _ _ _) rfl rfl rfl ?_
   refine s4 rfl (fun g7=>?_) fun g7=>?_
   ·refine s7 [.int .i64 _] rfl ?_
    first|exact G9 ‹_›|exact F0 (by unfold G3; omega) (by omega)|exact H1 (by unfold G3; omega)
   refine s7 [.int .i64 _] rfl ?_
   first|exact G9 ‹_›|exact F0 (by unfold G3; omega) (by omega)|exact H1 (by unfold G3; omega)
  refine s1 (D9 _ _ _) rfl rfl rfl ?_
  refine s5 rfl (fun g5=>?_) fun g5=>?_
  ·refine s7 [.int .i64 _] rfl ?_
   first|exact G9 ‹_›|exact F0 (by unfold G3; omega) (by omega)|exact H1 (by unfold G3; omega)
  refine s1 (D9 _ _ _) rfl rfl rfl ?_
  refine s4 rfl (fun g6=>?_) fun g6=>?_
  ·refine s7 [.int .i64 _] rfl ?_
   first|exact G9 ‹_›|exact F0 (by unfold G3; omega) (by omega)|exact H1 (by unfold G3; omega)
  refine s7 [.int .i64 _] rfl ?_
  first|exact G9 ‹_›|exact F0 (by unfold G3; omega) (by omega)|exact H1 (by unfold G3; omega)
 ·cases hs
def w8 (l:List Cel) (i:Int):Cel:=if i≤0 then (0,0,0,0,0,0,0,0,0,0,0,0) else l.getD (i - 1).toNat default
def A2C (r:List Cel) (l:Cel):Bool:=match V2 r l with
 | none=>true
 | some c=>decide (wdC c=1)
theorem A0U {l:List Cel} {i:Int} (h:i≤0):w8 l i=(0,0,0,0,0,0,0,0,0,0,0,0):=if_pos h
theorem M1 {l:List Cel} {i:Int} (h:0 < i):w8 l i=l.getD (i - 1).toNat default:=if_neg (by omega)
theorem B8B {l:List Cel} {c:Cel} {i:Int} (h:(l.length:Int)≤i) (h2:¬wdC c=1):A2C (l.drop i.toNat) c=false:=by rw [A3w l h]; exact decide_eq_false h2
theorem J7 {l:List Cel} {c:Cel} {i:Int} (h0:0≤i) (h1:i < (l.length:Int)) (h:B1p (l.getD i.toNat default) c):A2C (l.drop i.toNat) c=true:=by
 rw [W1 l h0 h1]; unfold A2C V2; rw [if_pos h]
theorem A2t {l:List Cel} {c:Cel} {i:Int} (h0:0≤i) (h1:i < (l.length:Int)) (h:¬B1p (l.getD i.toNat default) c):A2C (l.drop i.toNat) c=A2C (l.drop (i+1).toNat) (l.getD i.toNat default):=by
 rw [W1 l h0 h1]; unfold A2C; rw [V2,if_neg h]
theorem A0Q {l:List Cel} {c:Cel} {i:Int} (h0:0≤i) (h1:i=(l.length:Int) - 1) (h:wdC (l.getD i.toNat default)=1):A2C (l.drop i.toNat) c=true:=by
 by_cases hb:B1p (l.getD i.toNat default) c
 ·exact J7 h0 (by omega) hb
 ·rw [A2t h0 (by omega) hb,A3w l (by omega)]; exact decide_eq_true h
theorem B6j {p:Prop} [Decidable p] (h:¬(false≠decide p)) (hp:p):False:=by rw [decide_eq_true hp] at h; exact h (by decide)
theorem B4F {p q:Prop} [Decidable p] [Decidable q] (h:¬(decide p≠decide q)) (hp:p):q:=by
 have:=N9.1 h; rw [decide_eq_true hp] at this; exact of_decide_eq_true this.symm
theorem B6i {p q:Prop} [Decidable p] [Decidable q] (h:¬(decide p≠decide q)) (hq:q):p:=by
 have:=N9.1 h; rw [decide_eq_true hq] at this; exact of_decide_eq_true this
noncomputable def C4J:List (FuncId × FnC):=(96,M9 Tryd.prog [.a [3,3,3,3,3,3,3,3,3,3,3,3]] A6S [.s 3])::L0
theorem B97 {G:Nat→Option Obj} (hst:C3 Tryd.prog G gl H0 n0):I2 Tryd.prog G gl C4J:=(.cons (B8T hst) .nil)
def A60:List U→Option (Nat × List U)
 | [u_s,.int .i64 i]=>(M2 rCl u_s).bind fun s=>if 0≤i∧i≤((el s).length:Int)∧((el s).length:Int)≤80∧(i < ((el s).length:Int)∨¬wdC (w8 (el s) i)=1) then e9 (bU (A2C ((el s).drop i.toNat) (w8 (el s) i))) [] (fun _=>[]) else none
 | _=>none
theorem P7 (s:(Option (List (Int × Int × Int × Int × Int × Int × Int × Int × Int × Int × Int × Int)))) (i:Int) (hc:0≤i∧i≤((el s).length:Int)∧((el s).length:Int)≤80∧(i < ((el s).length:Int)∨¬wdC (w8 (el s) i)=1)):A60 [D1 rCl s,.int .i64 i]=e9 (bU (A2C ((el s).drop i.toNat) (w8 (el s) i))) [] (fun _=>[]):=by
 simp only [A60,E4,C4]
 exact if_pos hc
def C24:R6:=⟨[(3,dat 5 0 22),(4,h 1 3)],[(5,.frz)],2,[⟨.exit 0,[],[],0⟩,⟨.ret,[(2,.int .i64 (220))],[],0⟩]⟩
noncomputable def B73:Code:=(Tryd.f83.body).getD .skip
noncomputable def C20:Code:=match F6 [true,true,true,false,true,false] B73 with|some (.loop x)=>x|_=>.skip
theorem C23:Tryd.f83.body=some B73:=rfl
theorem C22:F6 [true,true,true,false,true,false] B73=some (.loop C20):=by kernel_rfl
def C21:Tr:=.lt 3 (.len) [h 0 22] <| .lt 8 (.bin .lss) [h 1 3,h 2 3] <| .br 3 (.lt 8 (.inbs 12) [h 1 3,h 0 22] <| .br 4 (.lt 3 (.get 12 0) [h 0 22,h 1 3] <| .lt 3 (.get 12 1) [h 0 22,h 1 3] <| .lt 3 (.get 12 2) [h 0 22,h 1 3] <| .lt 3 (.get 12 3) [h 0 22,h 1 3] <| .lt 3 (.get 12 4) [h 0 22,h 1 3] <| .lt 3 (.get 12 5) [h 0 22,h 1 3] <| .lt 3 (.get 12 6) [h 0 22,h 1 3] <| .lt 3 (.get 12 7) [h 0 22,h 1 3] <| .lt 3 (.get 12 8) [h 0 22,h 1 3] <| .lt 3 (.get 12 9) [h 0 22,h 1 3] <| .lt 3 (.get 12 10) [h 0 22,h 1 3] <| .lt 3 (.get 12 11) [h 0 22,h 1 3] <| .fn A6S [h 5 3,h 6 3,h 7 3,h 8 3,h 9 3,h 10 3,h 11 3,h 12 3,h 13 3,h 14 3,h 15 3,h 16 3] 1 <| .lt 8 (.bin .neq) [h 17 3,jI 0] <| .br 18 (.ret [jI 1]) (.lt 8 (.bin .gtr) [h 1 3,jI 0] <| .br 19 (.lt 3 (.bin .sub) [h 1 3,jI 1] <| .lt 8 (.inbs 12) [h 20 3,h 0 22] <| .br 21 (.lt 3 (.get 12 3) [h 0 22,h 20 3] <| .lt 8 (.bin .eql) [h 22 3,jI 1] <| .lt 8 (.inbs 12) [h 1 3,h 0 22] <| .br 24 (.lt 3 (.get 12 3) [h 0 22,h 1 3] <| .lt 8 (.bin .eql) [h 25 3,jI 2] <| .lt 8 (.bin .neq) [h 23 8,h 26 8] <| .br 27 (.ret [jI 1]) (.br 23 (.lt 8 (.inbs 12) [h 1 3,h 0 22] <| .br 28 (.lt 3 (.get 12 4) [h 0 22,h 1 3] <| .lt 3 (.get 12 5) [h 0 22,h 1 3] <| .lt 3 (.get 12 6) [h 0 22,h 1 3] <| .lt 3 (.get 12 7) [h 0 22,h 1 3] <| .lt 3 (.get 12 8) [h 0 22,h 1 3] <| .lt 3 (.get 12 9) [h 0 22,h 1 3] <| .lt 3 (.get 12 10) [h 0 22,h 1 3] <| .lt 3 (.get 12 11) [h 0 22,h 1 3] <| .lt 3 (.bin .sub) [h 1 3,jI 1] <| .lt 8 (.inbs 12) [h 37 3,h 0 22] <| .br 38 (.lt 3 (.get 12 4) [h 0 22,h 37 3] <| .lt 3 (.get 12 5) [h 0 22,h 37 3] <| .lt 3 (.get 12 6) [h 0 22,h 37 3] <| .lt 3 (.get 12 7) [h 0 22,h 37 3] <| .lt 3 (.get 12 8) [h 0 22,h 37 3] <| .lt 3 (.get 12 9) [h 0 22,h 37 3] <| .lt 3 (.get 12 10) [h 0 22,h 37 3] <| .lt 3 (.get 12 11) [h 0 22,h 37 3] <| .lt 8 (.eqs) [h 29 3,h 39 3,h 30 3,h 40 3,h 31 3,h 41 3,h 32 3,h 42 3,h 33 3,h 43 3,h 34 3,h 44 3,h 35 3,h 45 3,h 36 3,h 46 3] <| .lt 8 (.un .not) [h 47 8] <| .br 48 (.ret [jI 1]) (.lt 8 (.inbs 12) [h 1 3,h 0 22] <| .br 49 (.lt 3 (.get 12 3) [h 0 22,h 1 3] <| .lt 8 (.bin .eql) [h 50 3,jI 1] <| .br 51 (.lt 3 (.bin .sub) [h 2 3,jI 1] <| .lt 8 (.bin .eql) [h 1 3,h 52 3] <| .br 53 (.ret [jI 1]) (.lt 3 (.bin .add) [h 1 3,jI 1] <| .ret [jI (-1),h 0 22,h 54 3])) (.lt 3 (.bin .add) [h 1 3,jI 1] <| .ret [jI (-1),h 0 22,h 52 3])) (.no))) (.no)) (.no)) (.lt 8 (.inbs 12) [h 1 3,h 0 22] <| .br 28 (.lt 3 (.get 12 3) [h 0 22,h 1 3] <| .lt 8 (.bin .eql) [h 29 3,jI 1] <| .br 30 (.lt 3 (.bin .sub) [h 2 3,jI 1] <| .lt 8 (.bin .eql) [h 1 3,h 31 3] <| .br 32 (.ret [jI 1]) (.lt 3 (.bin .add) [h 1 3,jI 1] <| .ret [jI (-1),h 0 22,h 33 3])) (.lt 3 (.bin .add) [h 1 3,jI 1] <| .ret [jI (-1),h 0 22,h 31 3])) (.no)))) (.no)) (.no)) (.lt 8 (.inbs 12) [h 1 3,h 0 22] <| .br 20 (.lt 3 (.get 12 3) [h 0 22,h 1 3] <| .lt 8 (.bin .eql) [h 21 3,jI 2] <| .lt 8 (.bin .neq) [.bool false,h 22 8] <| .br 23 (.ret [jI 1]) (.lt 8 (.inbs 12) [h 1 3,h 0 22] <| .br 24 (.lt 3 (.get 12 3) [h 0 22,h 1 3] <| .lt 8 (.bin .eql) [h 25 3,jI 1] <| .br 26 (.lt 3 (.bin .sub) [h 2 3,jI 1] <| .lt 8 (.bin .eql) [h 1 3,h 27 3] <| .br 28 (.ret [jI 1]) (.lt 3 (.bin .add) [h 1 3,jI 1] <| .ret [jI (-1),h 0 22,h 29 3])) (.lt 3 (.bin .add) [h 1 3,jI 1] <| .ret [jI (-1),h 0 22,h 27 3])) (.no))) (.no)))) (.no)) (.ret [jI 0])
def B72:List U→Nat
 | [u_s,.int .i64 i]=>(match M2 rCl u_s with|some s=>(((el s).length:Int) - i).toNat|none=>0)
 | _=>0
theorem A01 (s:(Option (List (Int × Int × Int × Int × Int × Int × Int × Int × Int × Int × Int × Int)))) (i:Int):B72 [D1 rCl s,.int .i64 i]=(((el s).length:Int) - i).toNat:=by
 simp only [B72,E4]
theorem C5q {G:Nat→Option Obj} (hst:C3 Tryd.prog G gl H0 n0):∀ (E:Nat→U) (base:Nat),@N0 ⟨E,G⟩ Tryd.prog base gl Tryd.f83.ntmps C20 (M0 Tryd.prog gl n0 6 C24 A60):=by
 refine S8 (C:=cx C4J []) (dep:=60) (f:=83) (n0:=n0) (nB:=6) (H0:=H0) B72 C21 (cxg (B97 hst) .nil) hst Tryd.func83 C23 C22 (by kernel_rfl) (by kernel_rfl) (by kernel_rfl) ?_
 intro us d outs hs
 have hs0:=hs
 unfold A60 at hs
 split at hs
 ·skip
  rename_i u_s i
  have hq_s:=B0.1 hs
  clear hs
  obtain ⟨s,hd_s,hs⟩:=hq_s
  replace hd_s:=I4 hd_s
  subst hd_s
  split at hs
  ·rename_i hc
   clear hs hs0
   refine ⟨rfl,?_⟩
   unfold C21
   refine s0 (.cons 1 _ (.cons 0 _ (.nil))) rfl (by simp [Ev.ok,Ev.len]) ?_
   refine s1 (I8 _ _) rfl rfl rfl ?_
   refine s1 (K9 _ _ _) rfl rfl rfl ?_
   refine s5 rfl (fun g0=>?_) fun g0=>?_
   ·refine s7 [.int .i64 _] rfl ?_
    refine E1 (d:=0) ?_
    rw [P7 s i hc,B8B (by omega) (hc.2.2.2.resolve_left (by omega))]; rfl
   refine s1 (E8 rfl) rfl rfl rfl ?_
   refine s5 rfl (fun g1=>?_) fun g1=>?_
   ·refine s8 ?_
    first|omega
   refine s1 (u:=.int .i64 _) (B3 rfl (by omega) (by omega) rfl) rfl rfl rfl ?_
   refine s1 (u:=.int .i64 _) (B3 rfl (by omega) (by omega) rfl) rfl rfl rfl ?_
   refine s1 (u:=.int .i64 _) (B3 rfl (by omega) (by omega) rfl) rfl rfl rfl ?_
   refine s1 (u:=.int .i64 _) (B3 rfl (by omega) (by omega) rfl) rfl rfl rfl ?_
   refine s1 (u:=.int .i64 _) (B3 rfl (by omega) (by omega) rfl) rfl rfl rfl ?_
   refine s1 (u:=.int .i64 _) (B3 rfl (by omega) (by omega) rfl) rfl rfl rfl ?_
   refine s1 (u:=.int .i64 _) (B3 rfl (by omega) (by omega) rfl) rfl rfl rfl ?_
   refine s1 (u:=.int .i64 _) (B3 rfl (by omega) (by omega) rfl) rfl rfl rfl ?_
   refine s1 (u:=.int .i64 _) (B3 rfl (by omega) (by omega) rfl) rfl rfl rfl ?_
   refine s1 (u:=.int .i64 _) (B3 rfl (by omega) (by omega) rfl) rfl rfl rfl ?_
   refine s1 (u:=.int .i64 _) (B3 rfl (by omega) (by omega) rfl) rfl rfl rfl ?_
   refine s1 (u:=.int .i64 _) (B3 rfl (by omega) (by omega) rfl) rfl rfl rfl ?_
   refine s31 (B8S _ _ _ _ _ _ _ _ _ _ _ _) rfl ?_
   refine s1 (G2 _ _ _) rfl rfl rfl ?_
   refine s4 rfl (fun g2=>?_) fun g2=>?_
   ·refine s7 [.int .i64 _] rfl ?_
    refine E1 (d:=1) ?_
    rw [P7 s i hc]
    have t:A2C ((el s).drop i.toNat) (w8 (el s) i)=true:=by
     first
      | exact J7 (by omega) (by omega) (.inl ‹_›)
      | exact A0Q (by omega) (by omega) ‹_›
      | (rw [M1 (by omega)]; exact J7 (by omega) (by omega) (.inr (.inl ‹_›)))
      | (rw [M1 (by omega)]; exact J7 (by omega) (by omega) (.inr (.inr ⟨B4F g6 g7,A9J ‹_›⟩)))
      | (rw [A0U (by omega)]; exact J7 (by omega) (by omega) (.inr (.inl ‹_›)))

    rw [t]; rfl
   refine s1 (A0Y _ _ _) rfl rfl rfl ?_
   refine s4 rfl (fun g3=>?_) fun g3=>?_
   ·first|refine s1 (O7 (D4 (by omega) (by omega))) rfl rfl rfl ?_|refine s1 (S4 _ _ _) rfl rfl rfl ?_
    refine s1 (E8 rfl) rfl rfl rfl ?_
    refine s5 rfl (fun g4=>?_) fun g4=>?_
    ·refine s8 ?_
     first|omega
    refine s1 (u:=.int .i64 _) (B3 rfl (by omega) (by omega) rfl) rfl rfl rfl ?_
    refine s1 (D9 _ _ _) rfl rfl rfl ?_
    refine s1 (E8 rfl) rfl rfl rfl ?_
    refine s5 rfl (fun g5=>?_) fun g5=>?_
    ·refine s8 ?_
     first|omega
    refine s1 (u:=.int .i64 _) (B3 rfl (by omega) (by omega) rfl) rfl rfl rfl ?_
    refine s1 (D9 _ _ _) rfl rfl rfl ?_
    refine s1 (B4T _ _) rfl rfl rfl ?_
    refine s4 rfl (fun g6=>?_) fun g6=>?_
    ·refine s7 [.int .i64 _] rfl ?_
     refine E1 (d:=1) ?_
     rw [P7 s i hc]
     have t:A2C ((el s).drop i.toNat) (w8 (el s) i)=true:=by
      first
       | exact J7 (by omega) (by omega) (.inl ‹_›)
       | exact A0Q (by omega) (by omega) ‹_›
       | (rw [M1 (by omega)]; exact J7 (by omega) (by omega) (.inr (.inl ‹_›)))
       | (rw [M1 (by omega)]; exact J7 (by omega) (by omega) (.inr (.inr ⟨B4F g6 g7,A9J ‹_›⟩)))
       | (rw [A0U (by omega)]; exact J7 (by omega) (by omega) (.inr (.inl ‹_›)))

     rw [t]; rfl
    refine s4 rfl (fun g7=>?_) fun g7=>?_
    ·refine s1 (E8 rfl) rfl rfl rfl ?_
     refine s5 rfl (fun g8=>?_) fun g8=>?_
     ·refine s8 ?_
      first|omega
     refine s1 (u:=.int .i64 _) (B3 rfl (by omega) (by omega) rfl) rfl rfl rfl ?_
     refine s1 (u:=.int .i64 _) (B3 rfl (by omega) (by omega) rfl) rfl rfl rfl ?_
     refine s1 (u:=.int .i64 _) (B3 rfl (by omega) (by omega) rfl) rfl rfl rfl ?_
     refine s1 (u:=.int .i64 _) (B3 rfl (by omega) (by omega) rfl) rfl rfl rfl ?_
     refine s1 (u:=.int .i64 _) (B3 rfl (by omega) (by omega) rfl) rfl rfl rfl ?_
     refine s1 (u:=.int .i64 _) (B3 rfl (by omega) (by omega) rfl) rfl rfl rfl ?_
     refine s1 (u:=.int .i64 _) (B3 rfl (by omega) (by omega) rfl) rfl rfl rfl ?_
     refine s1 (u:=.int .i64 _) (B3 rfl (by omega) (by omega) rfl) rfl rfl rfl ?_
     first|refine s1 (O7 (D4 (by omega) (by omega))) rfl rfl rfl ?_|refine s1 (S4 _ _ _) rfl rfl rfl ?_
     refine s1 (E8 rfl) rfl rfl rfl ?_
     refine s5 rfl (fun g9=>?_) fun g9=>?_
     ·refine s8 ?_
      first|omega
     refine s1 (u:=.int .i64 _) (B3 rfl (by omega) (by omega) rfl) rfl rfl rfl ?_
     refine s1 (u:=.int .i64 _) (B3 rfl (by omega) (by omega) rfl) rfl rfl rfl ?_
     refine s1 (u:=.int .i64 _) (B3 rfl (by omega) (by omega) rfl) rfl rfl rfl ?_
     refine s1 (u:=.int .i64 _) (B3 rfl (by omega) (by omega) rfl) rfl rfl rfl ?_
     refine s1 (u:=.int .i64 _) (B3 rfl (by omega) (by omega) rfl) rfl rfl rfl ?_
     refine s1 (u:=.int .i64 _) (B3 rfl (by omega) (by omega) rfl) rfl rfl rfl ?_
     refine s1 (u:=.int .i64 _) (B3 rfl (by omega) (by omega) rfl) rfl rfl rfl ?_
     refine s1 (u:=.int .i64 _) (B3 rfl (by omega) (by omega) rfl) rfl rfl rfl ?_
     refine s1 rfl rfl rfl rfl ?_
     first|refine s1 (J8 _) rfl rfl rfl ?_|refine s1 (O5 _) rfl rfl rfl ?_
     first|refine s4 rfl (fun g10=>?_) (fun g10=>?_)|refine s4B rfl (fun g10=>?_) (fun g10=>?_)
     ·refine s7 [.int .i64 _] rfl ?_
      refine E1 (d:=1) ?_
      rw [P7 s i hc]
      have t:A2C ((el s).drop i.toNat) (w8 (el s) i)=true:=by
       first
        | exact J7 (by omega) (by omega) (.inl ‹_›)
        | exact A0Q (by omega) (by omega) ‹_›
        | (rw [M1 (by omega)]; exact J7 (by omega) (by omega) (.inr (.inl ‹_›)))
        | (rw [M1 (by omega)]; exact J7 (by omega) (by omega) (.inr (.inr ⟨B4F g6 g7,A9J ‹_›⟩)))
        | (rw [A0U (by omega)]; exact J7 (by omega) (by omega) (.inr (.inl ‹_›)))

      rw [t]; rfl
     refine s1 (E8 rfl) rfl rfl rfl ?_
     refine s5 rfl (fun g11=>?_) fun g11=>?_
     ·refine s8 ?_
      first|omega
     refine s1 (u:=.int .i64 _) (B3 rfl (by omega) (by omega) rfl) rfl rfl rfl ?_
     refine s1 (D9 _ _ _) rfl rfl rfl ?_
     refine s4 rfl (fun g12=>?_) fun g12=>?_
     ·first|refine s1 (O7 (D4 (by omega) (by omega))) rfl rfl rfl ?_|refine s1 (S4 _ _ _) rfl rfl rfl ?_
      refine s1 (D9 _ _ _) rfl rfl rfl ?_
      refine s4 rfl (fun g13=>?_) fun g13=>?_
      ·refine s7 [.int .i64 _] rfl ?_
       refine E1 (d:=1) ?_
       rw [P7 s i hc]
       have t:A2C ((el s).drop i.toNat) (w8 (el s) i)=true:=by
        first
         | exact J7 (by omega) (by omega) (.inl ‹_›)
         | exact A0Q (by omega) (by omega) ‹_›
         | (rw [M1 (by omega)]; exact J7 (by omega) (by omega) (.inr (.inl ‹_›)))
         | (rw [M1 (by omega)]; exact J7 (by omega) (by omega) (.inr (.inr ⟨B4F g6 g7,A9J ‹_›⟩)))
         | (rw [A0U (by omega)]; exact J7 (by omega) (by omega) (.inr (.inl ‹_›)))

       rw [t]; rfl
      first|refine s1 (G4 (D4 (by omega) (by omega))) rfl rfl rfl ?_|refine s1 (I9 _ _ _) rfl rfl rfl ?_
      refine s7 [.int .i64 _,D1 rCl _,.int .i64 _] rfl ?_
      refine G5 ?_ ?_
      ·have e:w8 (el s) (i+1)=(el s).getD i.toNat default:=by rw [M1 (by omega),show i+1 - 1=i by omega]
       refine (P7 s (i+1) ⟨by omega,by omega,hc.2.2.1,?_⟩).trans ?_
       ·rw [e]; by_cases q:i+1 < ((el s).length:Int)
        ·exact .inl q
        ·refine .inr fun w=>?_
         have w':((el s).getD i.toNat default).2.2.2.1=1:=w
         omega
       ·rw [P7 s i hc,e,A2t (l:=el s) (i:=i) (by omega) (by omega)]
        rintro (h|h|⟨h,h2⟩)
        ·exact g2 h
        ·first
          | (rw [M1 ‹_›] at h; exact g6 h)
          | (rw [A0U (by omega)] at h; exact absurd h ‹_›)
        ·first
          | exact g7 (B6i g6 h)
          | (rw [M1 ‹_›] at h2; have g:(!A7K ((el s).getD i.toNat default) ((el s).getD (i - 1).toNat default))=false:=g10; rw [h2] at g; cases g)
          | exact B6j ‹_› h

      ·rw [A01,A01]; omega
     first|refine s1 (G4 (D4 (by omega) (by omega))) rfl rfl rfl ?_|refine s1 (I9 _ _ _) rfl rfl rfl ?_
     refine s7 [.int .i64 _,D1 rCl _,.int .i64 _] rfl ?_
     refine G5 ?_ ?_
     ·have e:w8 (el s) (i+1)=(el s).getD i.toNat default:=by rw [M1 (by omega),show i+1 - 1=i by omega]
      refine (P7 s (i+1) ⟨by omega,by omega,hc.2.2.1,?_⟩).trans ?_
      ·rw [e]; by_cases q:i+1 < ((el s).length:Int)
       ·exact .inl q
       ·refine .inr fun w=>?_
        have w':((el s).getD i.toNat default).2.2.2.1=1:=w
        omega
      ·rw [P7 s i hc,e,A2t (l:=el s) (i:=i) (by omega) (by omega)]
       rintro (h|h|⟨h,h2⟩)
       ·exact g2 h
       ·first
         | (rw [M1 ‹_›] at h; exact g6 h)
         | (rw [A0U (by omega)] at h; exact absurd h ‹_›)
       ·first
         | exact g7 (B6i g6 h)
         | (rw [M1 ‹_›] at h2; have g:(!A7K ((el s).getD i.toNat default) ((el s).getD (i - 1).toNat default))=false:=g10; rw [h2] at g; cases g)
         | exact B6j ‹_› h

     ·rw [A01,A01]; omega
    refine s1 (E8 rfl) rfl rfl rfl ?_
    refine s5 rfl (fun g8=>?_) fun g8=>?_
    ·refine s8 ?_
     first|omega
    refine s1 (u:=.int .i64 _) (B3 rfl (by omega) (by omega) rfl) rfl rfl rfl ?_
    refine s1 (D9 _ _ _) rfl rfl rfl ?_
    refine s4 rfl (fun g9=>?_) fun g9=>?_
    ·first|refine s1 (O7 (D4 (by omega) (by omega))) rfl rfl rfl ?_|refine s1 (S4 _ _ _) rfl rfl rfl ?_
     refine s1 (D9 _ _ _) rfl rfl rfl ?_
     refine s4 rfl (fun g10=>?_) fun g10=>?_
     ·refine s7 [.int .i64 _] rfl ?_
      refine E1 (d:=1) ?_
      rw [P7 s i hc]
      have t:A2C ((el s).drop i.toNat) (w8 (el s) i)=true:=by
       first
        | exact J7 (by omega) (by omega) (.inl ‹_›)
        | exact A0Q (by omega) (by omega) ‹_›
        | (rw [M1 (by omega)]; exact J7 (by omega) (by omega) (.inr (.inl ‹_›)))
        | (rw [M1 (by omega)]; exact J7 (by omega) (by omega) (.inr (.inr ⟨B4F g6 g7,A9J ‹_›⟩)))
        | (rw [A0U (by omega)]; exact J7 (by omega) (by omega) (.inr (.inl ‹_›)))

      rw [t]; rfl
     first|refine s1 (G4 (D4 (by omega) (by omega))) rfl rfl rfl ?_|refine s1 (I9 _ _ _) rfl rfl rfl ?_
     refine s7 [.int .i64 _,D1 rCl _,.int .i64 _] rfl ?_
     refine G5 ?_ ?_
     ·have e:w8 (el s) (i+1)=(el s).getD i.toNat default:=by rw [M1 (by omega),show i+1 - 1=i by omega]
      refine (P7 s (i+1) ⟨by omega,by omega,hc.2.2.1,?_⟩).trans ?_
      ·rw [e]; by_cases q:i+1 < ((el s).length:Int)
       ·exact .inl q
       ·refine .inr fun w=>?_
        have w':((el s).getD i.toNat default).2.2.2.1=1:=w
        omega
      ·rw [P7 s i hc,e,A2t (l:=el s) (i:=i) (by omega) (by omega)]
       rintro (h|h|⟨h,h2⟩)
       ·exact g2 h
       ·first
         | (rw [M1 ‹_›] at h; exact g6 h)
         | (rw [A0U (by omega)] at h; exact absurd h ‹_›)
       ·first
         | exact g7 (B6i g6 h)
         | (rw [M1 ‹_›] at h2; have g:(!A7K ((el s).getD i.toNat default) ((el s).getD (i - 1).toNat default))=false:=g10; rw [h2] at g; cases g)
         | exact B6j ‹_› h

     ·rw [A01,A01]; omega
    first|refine s1 (G4 (D4 (by omega) (by omega))) rfl rfl rfl ?_|refine s1 (I9 _ _ _) rfl rfl rfl ?_
    refine s7 [.int .i64 _,D1 rCl _,.int .i64 _] rfl ?_
    refine G5 ?_ ?_
    ·have e:w8 (el s) (i+1)=(el s).getD i.toNat default:=by rw [M1 (by omega),show i+1 - 1=i by omega]
     refine (P7 s (i+1) ⟨by omega,by omega,hc.2.2.1,?_⟩).trans ?_
     ·rw [e]; by_cases q:i+1 < ((el s).length:Int)
      ·exact .inl q
      ·refine .inr fun w=>?_
       have w':((el s).getD i.toNat default).2.2.2.1=1:=w
       omega
     ·rw [P7 s i hc,e,A2t (l:=el s) (i:=i) (by omega) (by omega)]
      rintro (h|h|⟨h,h2⟩)
      ·exact g2 h
      ·first
        | (rw [M1 ‹_›] at h; exact g6 h)
        | (rw [A0U (by omega)] at h; exact absurd h ‹_›)
      ·first
        | exact g7 (B6i g6 h)
        | (rw [M1 ‹_›] at h2; have g:(!A7K ((el s).getD i.toNat default) ((el s).getD (i - 1).toNat default))=false:=g10; rw [h2] at g; cases g)
        | exact B6j ‹_› h

    ·rw [A01,A01]; omega
   refine s1 (E8 rfl) rfl rfl rfl ?_
   refine s5 rfl (fun g4=>?_) fun g4=>?_
   ·refine s8 ?_
    first|omega
   refine s1 (u:=.int .i64 _) (B3 rfl (by omega) (by omega) rfl) rfl rfl rfl ?_
   refine s1 (D9 _ _ _) rfl rfl rfl ?_
   refine s1 (B4T _ _) rfl rfl rfl ?_
   refine s4 rfl (fun g5=>?_) fun g5=>?_
   ·refine s7 [.int .i64 _] rfl ?_
    refine E1 (d:=1) ?_
    rw [P7 s i hc]
    have t:A2C ((el s).drop i.toNat) (w8 (el s) i)=true:=by
     first
      | exact J7 (by omega) (by omega) (.inl ‹_›)
      | exact A0Q (by omega) (by omega) ‹_›
      | (rw [M1 (by omega)]; exact J7 (by omega) (by omega) (.inr (.inl ‹_›)))
      | (rw [M1 (by omega)]; exact J7 (by omega) (by omega) (.inr (.inr ⟨B4F g6 g7,A9J ‹_›⟩)))
      | (rw [A0U (by omega)]; exact J7 (by omega) (by omega) (.inr (.inl ‹_›)))

    rw [t]; rfl
   refine s1 (E8 rfl) rfl rfl rfl ?_
   refine s5 rfl (fun g6=>?_) fun g6=>?_
   ·refine s8 ?_
    first|omega
   refine s1 (u:=.int .i64 _) (B3 rfl (by omega) (by omega) rfl) rfl rfl rfl ?_
   refine s1 (D9 _ _ _) rfl rfl rfl ?_
   refine s4 rfl (fun g7=>?_) fun g7=>?_
   ·first|refine s1 (O7 (D4 (by omega) (by omega))) rfl rfl rfl ?_|refine s1 (S4 _ _ _) rfl rfl rfl ?_
    refine s1 (D9 _ _ _) rfl rfl rfl ?_
    refine s4 rfl (fun g8=>?_) fun g8=>?_
    ·refine s7 [.int .i64 _] rfl ?_
     refine E1 (d:=1) ?_
     rw [P7 s i hc]
     have t:A2C ((el s).drop i.toNat) (w8 (el s) i)=true:=by
      first
       | exact J7 (by omega) (by omega) (.inl ‹_›)
       | exact A0Q (by omega) (by omega) ‹_›
       | (rw [M1 (by omega)]; exact J7 (by omega) (by omega) (.inr (.inl ‹_›)))
       | (rw [M1 (by omega)]; exact J7 (by omega) (by omega) (.inr (.inr ⟨B4F g6 g7,A9J ‹_›⟩)))
       | (rw [A0U (by omega)]; exact J7 (by omega) (by omega) (.inr (.inl ‹_›)))

     rw [t]; rfl
    first|refine s1 (G4 (D4 (by omega) (by omega))) rfl rfl rfl ?_|refine s1 (I9 _ _ _) rfl rfl rfl ?_
    refine s7 [.int .i64 _,D1 rCl _,.int .i64 _] rfl ?_
    refine G5 ?_ ?_
    ·have e:w8 (el s) (i+1)=(el s).getD i.toNat default:=by rw [M1 (by omega),show i+1 - 1=i by omega]
     refine (P7 s (i+1) ⟨by omega,by omega,hc.2.2.1,?_⟩).trans ?_
     ·rw [e]; by_cases q:i+1 < ((el s).length:Int)
      ·exact .inl q
      ·refine .inr fun w=>?_
       have w':((el s).getD i.toNat default).2.2.2.1=1:=w
       omega
     ·rw [P7 s i hc,e,A2t (l:=el s) (i:=i) (by omega) (by omega)]
      rintro (h|h|⟨h,h2⟩)
      ·exact g2 h
      ·first
        | (rw [M1 ‹_›] at h; exact g6 h)
        | (rw [A0U (by omega)] at h; exact absurd h ‹_›)
      ·first
        | exact g7 (B6i g6 h)
        | (rw [M1 ‹_›] at h2; have g:(!A7K ((el s).getD i.toNat default) ((el s).getD (i - 1).toNat default))=false:=g10; rw [h2] at g; cases g)
        | exact B6j ‹_› h

    ·rw [A01,A01]; omega
   first|refine s1 (G4 (D4 (by omega) (by omega))) rfl rfl rfl ?_|refine s1 (I9 _ _ _) rfl rfl rfl ?_
   refine s7 [.int .i64 _,D1 rCl _,.int .i64 _] rfl ?_
   refine G5 ?_ ?_
   ·have e:w8 (el s) (i+1)=(el s).getD i.toNat default:=by rw [M1 (by omega),show i+1 - 1=i by omega]
    refine (P7 s (i+1) ⟨by omega,by omega,hc.2.2.1,?_⟩).trans ?_
    ·rw [e]; by_cases q:i+1 < ((el s).length:Int)
     ·exact .inl q
     ·refine .inr fun w=>?_
      have w':((el s).getD i.toNat default).2.2.2.1=1:=w
      omega
    ·rw [P7 s i hc,e,A2t (l:=el s) (i:=i) (by omega) (by omega)]
     rintro (h|h|⟨h,h2⟩)
     ·exact g2 h
     ·first
       | (rw [M1 ‹_›] at h; exact g6 h)
       | (rw [A0U (by omega)] at h; exact absurd h ‹_›)
     ·first
       | exact g7 (B6i g6 h)
       | (rw [M1 ‹_›] at h2; have g:(!A7K ((el s).getD i.toNat default) ((el s).getD (i - 1).toNat default))=false:=g10; rw [h2] at g; cases g)
       | exact B6j ‹_› h

   ·rw [A01,A01]; omega
  ·cases hs
 ·cases hs
noncomputable def B6A:List LpE:=(83,([true,true,true,false,true,false],M0 Tryd.prog gl n0 6 C24 A60))::[]
theorem A83 {G:Nat→Option Obj} (hst:C3 Tryd.prog G gl H0 n0):X8 Tryd.prog G gl B6A:=.cons Tryd.func83 C23 C22 (C5q hst) .nil
theorem B0z {l:List Cel} {u:Unit} (h:bU (A2C l (0,0,0,0,0,0,0,0,0,0,0,0))=some u):u5 l=220:=by
 have q:=B51 h
 unfold A2C at q
 unfold u5
 split
 ·rfl
 ·cases hp:V2 l (0,0,0,0,0,0,0,0,0,0,0,0) with
  | none=>rfl
  | some c=>rw [hp] at q; exact if_pos (of_decide_eq_true q)
theorem B00 {l:List Cel} (h0:¬((l.length:Int) < 2∨80 < (l.length:Int))) (h:bU (A2C l (0,0,0,0,0,0,0,0,0,0,0,0))=none):u5 l=0:=by
 have q:=B52 h
 unfold A2C at q
 unfold u5
 rw [if_neg h0]
 cases hp:V2 l (0,0,0,0,0,0,0,0,0,0,0,0) with
 | none=>rw [hp] at q; cases q
 | some c=>rw [hp] at q; exact if_neg (of_decide_eq_false q)
theorem C5r {s:Option (List Cel)} (h:¬80 < ((el s).length:Int)) (h2:¬((el s).length:Int) < 2):A60 [D1 rCl s,.int .i64 0]=e9 (bU (A2C (el s) (0,0,0,0,0,0,0,0,0,0,0,0))) [] (fun _=>[]):=P7 s 0 ⟨by decide,by omega,by omega,.inl (by omega)⟩
noncomputable def B98:List (FuncId × FnC):=(96,M9 Tryd.prog [.a [3,3,3,3,3,3,3,3,3,3,3,3]] A6S [.s 3])::L0
theorem B64 {G:Nat→Option Obj} (hst:C3 Tryd.prog G gl H0 n0):I2 Tryd.prog G gl B98:=(.cons (B8T hst) .nil)
def A5A:List U→Option (Nat × List U)
 | [u_s,.bool wr]=>(M2 rCl u_s).bind fun s=>some (0,[.int .i64 (u5 (el s))])
 | _=>none
theorem B75 (s:(Option (List (Int × Int × Int × Int × Int × Int × Int × Int × Int × Int × Int × Int)))) (wr:Bool):A5A [D1 rCl s,.bool wr]=some (0,[.int .i64 (u5 (el s))]):=by
 simp only [A5A,E4,C4]
def B74:Tr:=.lt 3 (.len) [h 0 22] <| .lt 8 (.bin .lss) [h 2 3,jI 2] <| .br 3 (.ret [jI 220]) (.lt 8 (.bin .gtr) [h 2 3,jI 80] <| .br 4 (.ret [jI 220]) (.lp A60 [h 0 22,jI 0] 0 0 (.ret [jI 0]) (.lp A60 [h 0 22,jI 0] 1 0 (.ret [jI 220]) (.no))))
theorem B76 {G:Nat→Option Obj} (hst:C3 Tryd.prog G gl H0 n0):Q2 Tryd.prog G 83 [.a [22,8]] A5A [.s 3]:=by
 refine F2 (C:=cx B98 B6A) (d:=60) B74 (cxg (B64 hst) (A83 hst)) hst ⟨Tryd.f83,_,Tryd.func83,rfl⟩ (by kernel_rfl) (by kernel_rfl) ?_
 intro us outs hs
 unfold A5A at hs
 split at hs
 ·skip
  rename_i u_s wr
  have hq_s:=B0.1 hs
  clear hs
  obtain ⟨s,hd_s,hs⟩:=hq_s
  replace hd_s:=I4 hd_s
  subst hd_s
  cases hs
  unfold B74
  refine s0 (.cons 1 _ (.cons 0 _ (.nil))) rfl (by simp [Ev.ok,Ev.len]) ?_
  refine s1 (I8 _ _) rfl rfl rfl ?_
  refine s1 (K9 _ _ _) rfl rfl rfl ?_
  refine s4 rfl (fun g0=>?_) fun g0=>?_
  ·refine s7 [.int .i64 _] rfl ?_
   refine congrArg (fun z=>[U.int .i64 z]) ?_; symm; first|exact A2D (by omega)|exact B0z ‹_›|exact B00 (by omega) ‹_›
  refine s1 (A0Y _ _ _) rfl rfl rfl ?_
  refine s4 rfl (fun g1=>?_) fun g1=>?_
  ·refine s7 [.int .i64 _] rfl ?_
   refine congrArg (fun z=>[U.int .i64 z]) ?_; symm; first|exact A2D (by omega)|exact B0z ‹_›|exact B00 (by omega) ‹_›
  refine s6 (C5r (by omega) (by omega)) rfl (fun _=>rfl) (fun g2=>?_) (fun v2 g2=>?_)
  ·show Tr.sav _ _ _
   refine s7 [.int .i64 _] rfl ?_
   refine congrArg (fun z=>[U.int .i64 z]) ?_; symm; first|exact A2D (by omega)|exact B0z ‹_›|exact B00 (by omega) ‹_›
  show Tr.sav _ _ _
  refine s7 [.int .i64 _] rfl ?_
  refine congrArg (fun z=>[U.int .i64 z]) ?_; symm; first|exact A2D (by omega)|exact B0z ‹_›|exact B00 (by omega) ‹_›
 ·cases hs
noncomputable def C4K:List (FuncId × FnC):=(83,M9 Tryd.prog [.a [22,8]] A5A [.s 3])::L0
theorem B99 {G:Nat→Option Obj} (hst:C3 Tryd.prog G gl H0 n0):I2 Tryd.prog G gl C4K:=(.cons (B76 hst) .nil)
def A73:List U→Option (Nat × List U)
 | [u_rows,.int .i64 i]=>(M2 rRw u_rows).bind fun rows=>if 0≤i∧i≤((el rows).length:Int)∧((el rows).length:Int)≤140∧0 < ((el rows).length:Int) then e9 (A1B (A3L (F4 rows)) ((el rows).drop i.toNat) i) [] (fun _=>[]) else none
 | _=>none
theorem A4K (rows:(Option (List ((Option (List (Int × Int × Int × Int × Int × Int × Int × Int × Int × Int × Int × Int))) × Bool)))) (i:Int) (hc:0≤i∧i≤((el rows).length:Int)∧((el rows).length:Int)≤140∧0 < ((el rows).length:Int)):A73 [D1 rRw rows,.int .i64 i]=e9 (A1B (A3L (F4 rows)) ((el rows).drop i.toNat) i) [] (fun _=>[]):=by
 simp only [A73,E4,C4]
 exact if_pos hc
def C29:R6:=⟨[(0,dat 4 0 12),(3,h 1 3)],[(4,.frz)],2,[⟨.exit 0,[],[],0⟩,⟨.ret,[(2,.bool false)],[],0⟩]⟩
noncomputable def B79:Code:=(Tryd.f36.body).getD .skip
noncomputable def C25:Code:=match F6 [true,true,false,true,false] B79 with|some (.loop x)=>x|_=>.skip
theorem C28:Tryd.f36.body=some B79:=rfl
theorem C27:F6 [true,true,false,true,false] B79=some (.loop C25):=by kernel_rfl
def C26:Tr:=.lt 3 (.len) [h 0 12] <| .lt 8 (.bin .lss) [h 1 3,h 2 3] <| .br 3 (.lt 8 (.inbs 2) [h 1 3,h 0 12] <| .br 4 (.dt 22 (.get 2 0) [h 0 12,h 1 3] <| .lt 8 (.get 2 1) [h 0 12,h 1 3] <| .fn A5A [h 5 22,h 6 8] 1 <| .lt 8 (.bin .eql) [h 7 3,jI 0] <| .lt 8 (.un .not) [h 8 8] <| .br 9 (.ret [jI 1]) (.lt 8 (.inbs 2) [h 1 3,h 0 12] <| .br 10 (.dt 22 (.get 2 0) [h 0 12,h 1 3] <| .lt 3 (.len) [h 11 22] <| .lt 8 (.inbs 2) [jI 0,h 0 12] <| .br 13 (.dt 22 (.get 2 0) [h 0 12,jI 0] <| .lt 3 (.len) [h 14 22] <| .lt 8 (.bin .neq) [h 12 3,h 15 3] <| .br 16 (.ret [jI 1]) (.lt 3 (.bin .add) [h 1 3,jI 1] <| .ret [jI (-1),h 0 12,h 17 3])) (.no)) (.no))) (.no)) (.ret [jI 0])
def B78:List U→Nat
 | [u_rows,.int .i64 i]=>(match M2 rRw u_rows with|some rows=>(((el rows).length:Int) - i).toNat|none=>0)
 | _=>0
theorem B77 (rows:(Option (List ((Option (List (Int × Int × Int × Int × Int × Int × Int × Int × Int × Int × Int × Int))) × Bool)))) (i:Int):B78 [D1 rRw rows,.int .i64 i]=(((el rows).length:Int) - i).toNat:=by
 simp only [B78,E4]
theorem C5s {G:Nat→Option Obj} (hst:C3 Tryd.prog G gl H0 n0):∀ (E:Nat→U) (base:Nat),@N0 ⟨E,G⟩ Tryd.prog base gl Tryd.f36.ntmps C25 (M0 Tryd.prog gl n0 5 C29 A73):=by
 refine S8 (C:=cx C4K B6A) (dep:=60) (f:=36) (n0:=n0) (nB:=5) (H0:=H0) B78 C26 (cxg (B99 hst) (A83 hst)) hst Tryd.func36 C28 C27 (by kernel_rfl) (by kernel_rfl) (by kernel_rfl) ?_
 intro us d outs hs
 have hs0:=hs
 unfold A73 at hs
 split at hs
 ·skip
  rename_i u_rows i
  have hq_rows:=B0.1 hs
  clear hs
  obtain ⟨rows,hd_rows,hs⟩:=hq_rows
  replace hd_rows:=I4 hd_rows
  subst hd_rows
  split at hs
  ·rename_i hc
   clear hs hs0
   refine ⟨rfl,?_⟩
   unfold C26
   refine s0 (.cons 1 _ (.cons 0 _ (.nil))) rfl (by simp [Ev.ok,Ev.len]) ?_
   refine s1 (I8 _ _) rfl rfl rfl ?_
   refine s1 (K9 _ _ _) rfl rfl rfl ?_
   refine s5 rfl (fun g0=>?_) fun g0=>?_
   ·refine s7 [.int .i64 _] rfl ?_
    refine E1 (d:=0) ?_
    rw [A4K rows i hc,B0M (by omega)]; rfl
   refine s1 (E8 rfl) rfl rfl rfl ?_
   refine s5 rfl (fun g1=>?_) fun g1=>?_
   ·refine s8 ?_
    first|omega
   refine s2 (r:=rCl) (B3 rfl (by omega) (by omega) rfl) rfl rfl ?_
   refine s1 (u:=.bool _) (B3 rfl (by omega) (by omega) rfl) rfl rfl rfl ?_
   refine s31 (B75 _ _) rfl ?_
   refine s1 (D9 _ _ _) rfl rfl rfl ?_
   refine s1 (J8 _) rfl rfl rfl ?_
   refine s4 rfl (fun g2=>?_) fun g2=>?_
   ·refine s7 [.int .i64 _] rfl ?_
    refine E1 (d:=1) ?_
    rw [A4K rows i hc,A4b (by omega) (by omega) (by first|exact B1o ‹_›|exact B1n ‹_›)]; rfl
   refine s1 (E8 rfl) rfl rfl rfl ?_
   refine s5 rfl (fun g3=>?_) fun g3=>?_
   ·refine s8 ?_
    first|omega
   refine s2 (r:=rCl) (B3 rfl (by omega) (by omega) rfl) rfl rfl ?_
   refine s1 (I8 _ _) rfl rfl rfl ?_
   refine s1 (E8 rfl) rfl rfl rfl ?_
   refine s5 rfl (fun g4=>?_) fun g4=>?_
   ·refine s8 ?_
    first|omega
   refine s2 (r:=rCl) (B3 rfl (by omega) (by omega) rfl) rfl rfl ?_
   refine s1 (I8 _ _) rfl rfl rfl ?_
   refine s1 (G2 _ _ _) rfl rfl rfl ?_
   refine s4 rfl (fun g5=>?_) fun g5=>?_
   ·refine s7 [.int .i64 _] rfl ?_
    refine E1 (d:=1) ?_
    rw [A4K rows i hc,A4b (by omega) (by omega) (by first|exact B1o ‹_›|exact B1n ‹_›)]; rfl
   first|refine s1 (G4 (D4 (by omega) (by omega))) rfl rfl rfl ?_|refine s1 (I9 _ _ _) rfl rfl rfl ?_
   refine s7 [.int .i64 _,D1 rRw _,.int .i64 _] rfl ?_
   refine G5 ?_ ?_
   ·rw [A4K rows (i+1) ⟨by omega,by omega,hc.2.2⟩,A4K rows i hc,A8d (i:=i) (by omega) (by omega) (B4d ‹_› ‹_›)]
   ·rw [B77,B77]; omega
  ·cases hs
 ·cases hs
noncomputable def C4i:List LpE:=(36,([true,true,false,true,false],M0 Tryd.prog gl n0 5 C29 A73))::B6A
theorem C0i {G:Nat→Option Obj} (hst:C3 Tryd.prog G gl H0 n0):X8 Tryd.prog G gl C4i:=.cons Tryd.func36 C28 C27 (C5s hst) (A83 hst)
noncomputable def C4I:List (FuncId × FnC):=(83,M9 Tryd.prog [.a [22,8]] A5A [.s 3])::L0
theorem B96 {G:Nat→Option Obj} (hst:C3 Tryd.prog G gl H0 n0):I2 Tryd.prog G gl C4I:=(.cons (B76 hst) .nil)
def A4o:List U→Option (Nat × List U)
 | [u_rows]=>(M2 rRw u_rows).bind fun rows=>some (0,[.bool (decide (Y2 rows=0))])
 | _=>none
theorem B4y (rows:(Option (List ((Option (List (Int × Int × Int × Int × Int × Int × Int × Int × Int × Int × Int × Int))) × Bool)))):A4o [D1 rRw rows]=some (0,[.bool (decide (Y2 rows=0))]):=by
 simp only [A4o,E4,C4]
def C2z:Tr:=.lt 3 (.len) [h 0 12] <| .lt 8 (.bin .lss) [h 1 3,jI 1] <| .br 2 (.ret [.bool false]) (.lt 8 (.bin .gtr) [h 1 3,jI 140] <| .br 3 (.ret [.bool false]) (.lp A73 [h 0 12,jI 0] 0 0 (.ret [.bool true]) (.lp A73 [h 0 12,jI 0] 1 0 (.ret [.bool false]) (.no))))
theorem B4z {G:Nat→Option Obj} (hst:C3 Tryd.prog G gl H0 n0):Q2 Tryd.prog G 36 [.s 12] A4o [.s 8]:=by
 refine F2 (C:=cx C4I C4i) (d:=60) C2z (cxg (B96 hst) (C0i hst)) hst ⟨Tryd.f36,_,Tryd.func36,rfl⟩ (by kernel_rfl) (by kernel_rfl) ?_
 intro us outs hs
 unfold A4o at hs
 split at hs
 ·skip
  rename_i u_rows
  have hq_rows:=B0.1 hs
  clear hs
  obtain ⟨rows,hd_rows,hs⟩:=hq_rows
  replace hd_rows:=I4 hd_rows
  subst hd_rows
  cases hs
  unfold C2z
  refine s0 (.cons 0 _ (.nil)) rfl (by simp [Ev.ok,Ev.len]) ?_
  refine s1 (I8 _ _) rfl rfl rfl ?_
  refine s1 (K9 _ _ _) rfl rfl rfl ?_
  refine s4 rfl (fun g0=>?_) fun g0=>?_
  ·refine s7 [.bool _] rfl ?_
   refine congrArg (fun z=>[U.bool z]) ?_; symm; first|exact decide_eq_true (A3y (by omega) ‹_›)|exact decide_eq_false (by rw [A30 (by omega)]; decide)|exact decide_eq_false (by rw [A3z (by omega) ‹_›]; decide)
  refine s1 (A0Y _ _ _) rfl rfl rfl ?_
  refine s4 rfl (fun g1=>?_) fun g1=>?_
  ·refine s7 [.bool _] rfl ?_
   refine congrArg (fun z=>[U.bool z]) ?_; symm; first|exact decide_eq_true (A3y (by omega) ‹_›)|exact decide_eq_false (by rw [A30 (by omega)]; decide)|exact decide_eq_false (by rw [A3z (by omega) ‹_›]; decide)
  refine s6 (A4K rows 0 ⟨by decide,by omega,by omega,by omega⟩) rfl (fun _=>rfl) (fun g2=>?_) (fun v2 g2=>?_)
  ·show Tr.sav _ _ _
   refine s7 [.bool _] rfl ?_
   refine congrArg (fun z=>[U.bool z]) ?_; symm; first|exact decide_eq_true (A3y (by omega) ‹_›)|exact decide_eq_false (by rw [A30 (by omega)]; decide)|exact decide_eq_false (by rw [A3z (by omega) ‹_›]; decide)
  show Tr.sav _ _ _
  refine s7 [.bool _] rfl ?_
  refine congrArg (fun z=>[U.bool z]) ?_; symm; first|exact decide_eq_true (A3y (by omega) ‹_›)|exact decide_eq_false (by rw [A30 (by omega)]; decide)|exact decide_eq_false (by rw [A3z (by omega) ‹_›]; decide)
 ·cases hs
noncomputable def C4N:List (FuncId × FnC):=L0
theorem C0C {G:Nat→Option Obj} (hst:C3 Tryd.prog G gl H0 n0):I2 Tryd.prog G gl C4N:=.nil
def A9v:List U→Option (Nat × List U)
 | [u_rows,.int .i64 first,.int .i64 last]=>(M2 rRw u_rows).bind fun rows=>if 0≤first∧first < ((el rows).length:Int)∧((el rows).length:Int)≤1000000 then some (0,[D1 rRw rows,.int .i64 (U3 (el rows) first),.int .i64 last]) else none
 | _=>none
theorem A5x (rows:(Option (List ((Option (List (Int × Int × Int × Int × Int × Int × Int × Int × Int × Int × Int × Int))) × Bool)))) (first:Int) (last:Int) (hc:0≤first∧first < ((el rows).length:Int)∧((el rows).length:Int)≤1000000):A9v [D1 rRw rows,.int .i64 first,.int .i64 last]=some (0,[D1 rRw rows,.int .i64 (U3 (el rows) first),.int .i64 last]):=by
 simp only [A9v,E4,C4]
 exact if_pos hc
def C3J:R6:=⟨[(0,dat 4 0 12),(6,h 1 3),(7,h 2 3)],[(4,.frz)],3,[⟨.exit 0,[(0,dat 5 0 12),(6,h 1 3),(7,h 2 3)],[(5,.frz)],3⟩]⟩
noncomputable def B8J:Code:=(Tryd.f46.body).getD .skip
noncomputable def C3F:Code:=match F6 [true,true,false,false] B8J with|some (.loop x)=>x|_=>.skip
theorem C3I:Tryd.f46.body=some B8J:=rfl
theorem C3H:F6 [true,true,false,false] B8J=some (.loop C3F):=by kernel_rfl
def C3G:Tr:=.lt 8 (.bin .gtr) [h 1 3,jI 0] <| .br 3 (.lt 3 (.bin .sub) [h 1 3,jI 1] <| .lt 8 (.inbs 2) [h 4 3,h 0 12] <| .br 5 (.lt 8 (.get 2 1) [h 0 12,h 4 3] <| .br 6 (.lt 3 (.bin .sub) [h 1 3,jI 1] <| .ret [jI (-1),h 0 12,h 7 3,h 2 3]) (.ret [jI 0,h 0 12,h 1 3,h 2 3])) (.no)) (.ret [jI 0,h 0 12,h 1 3,h 2 3])
def B8I:List U→Nat
 | [u_rows,.int .i64 first,.int .i64 last]=>(match M2 rRw u_rows with|some rows=>first.toNat|none=>0)
 | _=>0
theorem B8H (rows:(Option (List ((Option (List (Int × Int × Int × Int × Int × Int × Int × Int × Int × Int × Int × Int))) × Bool)))) (first:Int) (last:Int):B8I [D1 rRw rows,.int .i64 first,.int .i64 last]=first.toNat:=by
 simp only [B8I,E4]
theorem C5u {G:Nat→Option Obj} (hst:C3 Tryd.prog G gl H0 n0):∀ (E:Nat→U) (base:Nat),@N0 ⟨E,G⟩ Tryd.prog base gl Tryd.f46.ntmps C3F (M0 Tryd.prog gl n0 6 C3J A9v):=by
 refine S8 (C:=cx C4N []) (dep:=60) (f:=46) (n0:=n0) (nB:=6) (H0:=H0) B8I C3G (cxg (C0C hst) .nil) hst Tryd.func46 C3I C3H (by kernel_rfl) (by kernel_rfl) (by kernel_rfl) ?_
 intro us d outs hs
 have hs0:=hs
 unfold A9v at hs
 split at hs
 ·skip
  rename_i u_rows first last
  have hq_rows:=B0.1 hs
  clear hs
  obtain ⟨rows,hd_rows,hs⟩:=hq_rows
  replace hd_rows:=I4 hd_rows
  subst hd_rows
  split at hs
  ·rename_i hc
   clear hs hs0
   refine ⟨rfl,?_⟩
   unfold C3G
   refine s0 (.cons 2 _ (.cons 1 _ (.cons 0 _ (.nil)))) rfl (by simp [Ev.ok,Ev.len]) ?_
   refine s1 (A0Y _ _ _) rfl rfl rfl ?_
   refine s5 rfl (fun g0=>?_) fun g0=>?_
   ·refine s7 [.int .i64 _,D1 rRw _,.int .i64 _,.int .i64 _] rfl ?_
    refine E1 (d:=0) ?_
    rw [A5x rows first last hc]; first|rw [B1N ‹_› hc.1]|rw [A7e ‹_› ‹_›]
   first|refine s1 (O7 (D4 (by omega) (by omega))) rfl rfl rfl ?_|refine s1 (S4 _ _ _) rfl rfl rfl ?_
   refine s1 (E8 rfl) rfl rfl rfl ?_
   refine s5 rfl (fun g1=>?_) fun g1=>?_
   ·refine s8 ?_
    first|omega
   refine s1 (u:=.bool _) (B3 rfl (by omega) (by omega) rfl) rfl rfl rfl ?_
   refine s5B rfl (fun g2=>?_) fun g2=>?_
   ·refine s7 [.int .i64 _,D1 rRw _,.int .i64 _,.int .i64 _] rfl ?_
    refine E1 (d:=0) ?_
    rw [A5x rows first last hc]; first|rw [B1N ‹_› hc.1]|rw [A7e ‹_› ‹_›]
   first|refine s1 (O7 (D4 (by omega) (by omega))) rfl rfl rfl ?_|refine s1 (S4 _ _ _) rfl rfl rfl ?_
   refine s7 [.int .i64 _,D1 rRw _,.int .i64 _,.int .i64 _] rfl ?_
   refine G5 ?_ ?_
   ·rw [A5x rows first last hc,A7f ‹_› ‹_›]; exact A5x _ _ _ ⟨by omega,by omega,hc.2.2⟩
   ·rw [B8H,B8H]; omega
  ·cases hs
 ·cases hs
noncomputable def C0k:List LpE:=(46,([true,true,false,false],M0 Tryd.prog gl n0 6 C3J A9v))::[]
theorem B3g {G:Nat→Option Obj} (hst:C3 Tryd.prog G gl H0 n0):X8 Tryd.prog G gl C0k:=.cons Tryd.func46 C3I C3H (C5u hst) .nil
noncomputable def C4M:List (FuncId × FnC):=L0
theorem C0B {G:Nat→Option Obj} (hst:C3 Tryd.prog G gl H0 n0):I2 Tryd.prog G gl C4M:=.nil
def A9u:List U→Option (Nat × List U)
 | [u_rows,.int .i64 first,.int .i64 last]=>(M2 rRw u_rows).bind fun rows=>if 0≤last∧last < ((el rows).length:Int)∧((el rows).length:Int)≤1000000 then some (0,[.int .i64 first,.int .i64 (R8 (el rows) last)]) else none
 | _=>none
theorem A5w (rows:(Option (List ((Option (List (Int × Int × Int × Int × Int × Int × Int × Int × Int × Int × Int × Int))) × Bool)))) (first:Int) (last:Int) (hc:0≤last∧last < ((el rows).length:Int)∧((el rows).length:Int)≤1000000):A9u [D1 rRw rows,.int .i64 first,.int .i64 last]=some (0,[.int .i64 first,.int .i64 (R8 (el rows) last)]):=by
 simp only [A9u,E4,C4]
 exact if_pos hc
def C3E:R6:=⟨[(0,dat 7 0 12),(6,h 1 3),(7,h 2 3),(28,junk),(29,junk),(30,junk),(31,junk),(32,junk)],[(7,.frz)],3,[⟨.exit 2,[(6,h 0 3),(7,h 1 3)],[],2⟩]⟩
noncomputable def B8G:Code:=(Tryd.f46.body).getD .skip
noncomputable def C3A:Code:=match F6 [true,true,true,false,false] B8G with|some (.loop x)=>x|_=>.skip
theorem C3D:Tryd.f46.body=some B8G:=rfl
theorem C3C:F6 [true,true,true,false,false] B8G=some (.loop C3A):=by kernel_rfl
def C3B:Tr:=.lt 3 (.len) [h 0 12] <| .lt 3 (.bin .sub) [h 3 3,jI 1] <| .lt 8 (.bin .lss) [h 2 3,h 4 3] <| .br 5 (.lt 8 (.inbs 2) [h 2 3,h 0 12] <| .br 6 (.lt 8 (.get 2 1) [h 0 12,h 2 3] <| .br 7 (.lt 3 (.bin .add) [h 2 3,jI 1] <| .ret [jI (-1),h 0 12,h 1 3,h 8 3]) (.ret [jI 0,h 1 3,h 2 3])) (.no)) (.ret [jI 0,h 1 3,h 2 3])
def B8F:List U→Nat
 | [u_rows,.int .i64 first,.int .i64 last]=>(match M2 rRw u_rows with|some rows=>(((el rows).length:Int) - last).toNat|none=>0)
 | _=>0
theorem B8E (rows:(Option (List ((Option (List (Int × Int × Int × Int × Int × Int × Int × Int × Int × Int × Int × Int))) × Bool)))) (first:Int) (last:Int):B8F [D1 rRw rows,.int .i64 first,.int .i64 last]=(((el rows).length:Int) - last).toNat:=by
 simp only [B8F,E4]
theorem C5t {G:Nat→Option Obj} (hst:C3 Tryd.prog G gl H0 n0):∀ (E:Nat→U) (base:Nat),@N0 ⟨E,G⟩ Tryd.prog base gl Tryd.f46.ntmps C3A (M0 Tryd.prog gl n0 8 C3E A9u):=by
 refine S8 (C:=cx C4M C0k) (dep:=60) (f:=46) (n0:=n0) (nB:=8) (H0:=H0) B8F C3B (cxg (C0B hst) (B3g hst)) hst Tryd.func46 C3D C3C (by kernel_rfl) (by kernel_rfl) (by kernel_rfl) ?_
 intro us d outs hs
 have hs0:=hs
 unfold A9u at hs
 split at hs
 ·skip
  rename_i u_rows first last
  have hq_rows:=B0.1 hs
  clear hs
  obtain ⟨rows,hd_rows,hs⟩:=hq_rows
  replace hd_rows:=I4 hd_rows
  subst hd_rows
  split at hs
  ·rename_i hc
   clear hs hs0
   refine ⟨rfl,?_⟩
   unfold C3B
   refine s0 (.cons 2 _ (.cons 1 _ (.cons 0 _ (.nil)))) rfl (by simp [Ev.ok,Ev.len]) ?_
   refine s1 (I8 _ _) rfl rfl rfl ?_
   first|refine s1 (O7 (D4 (by omega) (by omega))) rfl rfl rfl ?_|refine s1 (S4 _ _ _) rfl rfl rfl ?_
   refine s1 (K9 _ _ _) rfl rfl rfl ?_
   refine s5 rfl (fun g0=>?_) fun g0=>?_
   ·refine s7 [.int .i64 _,.int .i64 _,.int .i64 _] rfl ?_
    refine E1 (d:=0) ?_
    rw [A5w rows first last hc]; first|rw [A3h hc.1 (.inr (by omega))]|rw [A3h hc.1 (.inl ‹_›)]
   refine s1 (E8 rfl) rfl rfl rfl ?_
   refine s5 rfl (fun g1=>?_) fun g1=>?_
   ·refine s8 ?_
    first|omega
   refine s1 (u:=.bool _) (B3 rfl (by omega) (by omega) rfl) rfl rfl rfl ?_
   refine s5B rfl (fun g2=>?_) fun g2=>?_
   ·refine s7 [.int .i64 _,.int .i64 _,.int .i64 _] rfl ?_
    refine E1 (d:=0) ?_
    rw [A5w rows first last hc]; first|rw [A3h hc.1 (.inr (by omega))]|rw [A3h hc.1 (.inl ‹_›)]
   first|refine s1 (G4 (D4 (by omega) (by omega))) rfl rfl rfl ?_|refine s1 (I9 _ _ _) rfl rfl rfl ?_
   refine s7 [.int .i64 _,D1 rRw _,.int .i64 _,.int .i64 _] rfl ?_
   refine G5 ?_ ?_
   ·rw [A5w rows first last hc,A7a hc.1 ‹_› (by omega)]; exact A5w _ _ _ ⟨by omega,by omega,hc.2.2⟩
   ·rw [B8E,B8E]; omega
  ·cases hs
 ·cases hs
noncomputable def C0j:List LpE:=(46,([true,true,true,false,false],M0 Tryd.prog gl n0 8 C3E A9u))::C0k
theorem B3f {G:Nat→Option Obj} (hst:C3 Tryd.prog G gl H0 n0):X8 Tryd.prog G gl C0j:=.cons Tryd.func46 C3D C3C (C5t hst) (B3g hst)
noncomputable def C4L:List (FuncId × FnC):=L0
theorem C0A {G:Nat→Option Obj} (hst:C3 Tryd.prog G gl H0 n0):I2 Tryd.prog G gl C4L:=.nil
def A4r:List U→Option (Nat × List U)
 | [u_rows,.int .i64 i]=>(M2 rRw u_rows).bind fun rows=>if 0≤i∧i < ((el rows).length:Int)∧((el rows).length:Int)≤140 then some (0,[.int .i64 (U3 (el rows) i),.int .i64 (R8 (el rows) i)]) else none
 | _=>none
theorem B42 (rows:(Option (List ((Option (List (Int × Int × Int × Int × Int × Int × Int × Int × Int × Int × Int × Int))) × Bool)))) (i:Int) (hc:0≤i∧i < ((el rows).length:Int)∧((el rows).length:Int)≤140):A4r [D1 rRw rows,.int .i64 i]=some (0,[.int .i64 (U3 (el rows) i),.int .i64 (R8 (el rows) i)]):=by
 simp only [A4r,E4,C4]
 exact if_pos hc
def C2_:Tr:=.fn A9v [h 0 12,h 1 3,h 1 3] 3 <| .fn A9u [h 2 12,h 3 3,h 4 3] 2 <| .ret [h 5 3,h 6 3]
theorem B43 {G:Nat→Option Obj} (hst:C3 Tryd.prog G gl H0 n0):Q2 Tryd.prog G 46 [.s 12,.s 3] A4r [.s 3,.s 3]:=by
 refine F2 (C:=cx C4L C0j) (d:=60) C2_ (cxg (C0A hst) (B3f hst)) hst ⟨Tryd.f46,_,Tryd.func46,rfl⟩ (by kernel_rfl) (by kernel_rfl) ?_
 intro us outs hs
 unfold A4r at hs
 split at hs
 ·skip
  rename_i u_rows i
  have hq_rows:=B0.1 hs
  clear hs
  obtain ⟨rows,hd_rows,hs⟩:=hq_rows
  replace hd_rows:=I4 hd_rows
  subst hd_rows
  split at hs
  ·rename_i hc
   cases hs
   unfold C2_
   refine s0 (.cons 1 _ (.cons 0 _ (.nil))) rfl (by simp [Ev.ok,Ev.len]) ?_
   refine s3 (A5x _ _ _ ⟨by omega,by omega,by omega⟩) rfl ?_
   show Tr.sav _ _ (.cons 4 _ (.cons 3 _ (.cons 2 _ _)))
   refine s32 (A5w _ _ _ ⟨by omega,by omega,by omega⟩) rfl rfl ?_
   refine s7 [.int .i64 _,.int .i64 _] rfl ?_
   first|rfl
  ·cases hs
 ·cases hs
noncomputable def B9_:List (FuncId × FnC):=(36,M9 Tryd.prog [.s 12] A4o [.s 8])::(46,M9 Tryd.prog [.s 12,.s 3] A4r [.s 3,.s 3])::L0
theorem B65 {G:Nat→Option Obj} (hst:C3 Tryd.prog G gl H0 n0):I2 Tryd.prog G gl B9_:=(.cons (B4z hst) (.cons (B43 hst) .nil))
def A1b:List U→Option (Nat × List U)
 | [u_rows,.int .i64 r,.int .i64 c]=>(M2 rRw u_rows).bind fun rows=>some (0,[.int .i64 (ifE (P8 rows 0 r c) (U3 (el rows) r)),.int .i64 (0),.int .i64 (ifE (P8 rows 0 r c) (R8 (el rows) r)),.int .i64 (ifE (P8 rows 0 r c) (F4 rows)),.int .i64 (P8 rows 0 r c)])
 | _=>none
theorem A2U (rows:(Option (List ((Option (List (Int × Int × Int × Int × Int × Int × Int × Int × Int × Int × Int × Int))) × Bool)))) (r:Int) (c:Int):A1b [D1 rRw rows,.int .i64 r,.int .i64 c]=some (0,[.int .i64 (ifE (P8 rows 0 r c) (U3 (el rows) r)),.int .i64 (0),.int .i64 (ifE (P8 rows 0 r c) (R8 (el rows) r)),.int .i64 (ifE (P8 rows 0 r c) (F4 rows)),.int .i64 (P8 rows 0 r c)]):=by
 simp only [A1b,E4,C4]
def B8D:Tr:=.fn A4o [h 0 12] 1 <| .lt 8 (.un .not) [h 3 8] <| .br 4 (.ret [jI 0,jI 0,jI 0,jI 0,jI 420]) (.lt 8 (.bin .geq) [h 1 3,jI 0] <| .br 5 (.lt 3 (.len) [h 0 12] <| .lt 8 (.bin .lss) [h 1 3,h 6 3] <| .br 7 (.lt 8 (.bin .geq) [h 2 3,jI 0] <| .br 8 (.lt 8 (.inbs 2) [jI 0,h 0 12] <| .br 9 (.dt 22 (.get 2 0) [h 0 12,jI 0] <| .lt 3 (.len) [h 10 22] <| .lt 8 (.bin .leq) [h 2 3,h 11 3] <| .lt 8 (.un .not) [h 12 8] <| .br 13 (.ret [jI 0,jI 0,jI 0,jI 0,jI 2]) (.fn A4r [h 0 12,h 1 3] 2 <| .lt 8 (.inbs 2) [jI 0,h 0 12] <| .br 16 (.dt 22 (.get 2 0) [h 0 12,jI 0] <| .lt 3 (.len) [h 17 22] <| .ret [h 14 3,jI 0,h 15 3,h 18 3,jI 0]) (.no))) (.no)) (.ret [jI 0,jI 0,jI 0,jI 0,jI 2])) (.ret [jI 0,jI 0,jI 0,jI 0,jI 2])) (.ret [jI 0,jI 0,jI 0,jI 0,jI 2]))
theorem C46 {G:Nat→Option Obj} (hst:C3 Tryd.prog G gl H0 n0):Q2 Tryd.prog G 17 [.s 12,.a [3,3]] A1b [.a [3,3],.a [3,3],.s 3]:=by
 refine F2 (C:=cx B9_ C0j) (d:=60) B8D (cxg (B65 hst) (B3f hst)) hst ⟨Tryd.f17,_,Tryd.func17,rfl⟩ (by kernel_rfl) (by kernel_rfl) ?_
 intro us outs hs
 unfold A1b at hs
 split at hs
 ·skip
  rename_i u_rows r c
  have hq_rows:=B0.1 hs
  clear hs
  obtain ⟨rows,hd_rows,hs⟩:=hq_rows
  replace hd_rows:=I4 hd_rows
  subst hd_rows
  cases hs
  have qd:=B1g rows
  have qe:=B9h rows
  unfold B8D
  refine s0 (.cons 2 _ (.cons 1 _ (.cons 0 _ (.nil)))) rfl (by simp [Ev.ok,Ev.len]) ?_
  refine s31 (B4y _) rfl ?_
  first|refine s1 (J8 _) rfl rfl rfl ?_|refine s1 (O5 _) rfl rfl rfl ?_
  first|refine s4 rfl (fun g0=>?_) (fun g0=>?_)|refine s4B rfl (fun g0=>?_) (fun g0=>?_)
  ·refine s7 [.int .i64 _,.int .i64 _,.int .i64 _,.int .i64 _,.int .i64 _] rfl ?_
   first|exact Q1 ((U2 (by omega)).trans (by omega)) (by decide)|exact Q1 (U1 (by omega) (by omega)) (by decide)|exact (by rw [← qd.2]; exact A0T (U0 (by omega) (by omega)))
  refine s1 (H9 _ _ _) rfl rfl rfl ?_
  refine s5 rfl (fun g1=>?_) fun g1=>?_
  ·refine s7 [.int .i64 _,.int .i64 _,.int .i64 _,.int .i64 _,.int .i64 _] rfl ?_
   first|exact Q1 ((U2 (by omega)).trans (by omega)) (by decide)|exact Q1 (U1 (by omega) (by omega)) (by decide)|exact (by rw [← qd.2]; exact A0T (U0 (by omega) (by omega)))
  refine s1 (I8 _ _) rfl rfl rfl ?_
  refine s1 (K9 _ _ _) rfl rfl rfl ?_
  refine s5 rfl (fun g2=>?_) fun g2=>?_
  ·refine s7 [.int .i64 _,.int .i64 _,.int .i64 _,.int .i64 _,.int .i64 _] rfl ?_
   first|exact Q1 ((U2 (by omega)).trans (by omega)) (by decide)|exact Q1 (U1 (by omega) (by omega)) (by decide)|exact (by rw [← qd.2]; exact A0T (U0 (by omega) (by omega)))
  refine s1 (H9 _ _ _) rfl rfl rfl ?_
  refine s5 rfl (fun g3=>?_) fun g3=>?_
  ·refine s7 [.int .i64 _,.int .i64 _,.int .i64 _,.int .i64 _,.int .i64 _] rfl ?_
   first|exact Q1 ((U2 (by omega)).trans (by omega)) (by decide)|exact Q1 (U1 (by omega) (by omega)) (by decide)|exact (by rw [← qd.2]; exact A0T (U0 (by omega) (by omega)))
  refine s1 (E8 rfl) rfl rfl rfl ?_
  refine s5 rfl (fun g4=>?_) fun g4=>?_
  ·refine s8 ?_
   first|omega
  refine s2 (r:=rCl) (B3 rfl (by omega) (by omega) rfl) rfl rfl ?_
  refine s1 (I8 _ _) rfl rfl rfl ?_
  refine s1 (P2 _ _ _) rfl rfl rfl ?_
  refine s1 (J8 _) rfl rfl rfl ?_
  refine s4 rfl (fun g5=>?_) fun g5=>?_
  ·refine s7 [.int .i64 _,.int .i64 _,.int .i64 _,.int .i64 _,.int .i64 _] rfl ?_
   first|exact Q1 ((U2 (by omega)).trans (by omega)) (by decide)|exact Q1 (U1 (by omega) (by omega)) (by decide)|exact (by rw [← qd.2]; exact A0T (U0 (by omega) (by omega)))
  refine s32 (B42 _ _ ⟨by omega,by omega,by omega⟩) rfl rfl ?_
  refine s1 (E8 rfl) rfl rfl rfl ?_
  refine s5 rfl (fun g6=>?_) fun g6=>?_
  ·refine s8 ?_
   first|omega
  refine s2 (r:=rCl) (B3 rfl (by omega) (by omega) rfl) rfl rfl ?_
  refine s1 (I8 _ _) rfl rfl rfl ?_
  refine s7 [.int .i64 _,.int .i64 _,.int .i64 _,.int .i64 _,.int .i64 _] rfl ?_
  first|exact Q1 ((U2 (by omega)).trans (by omega)) (by decide)|exact Q1 (U1 (by omega) (by omega)) (by decide)|exact (by rw [← qd.2]; exact A0T (U0 (by omega) (by omega)))
 ·cases hs
theorem C5Y {a:Cel} {b c d e f g h' k:Int}:(a.1 == 32 && (a.2.1 == 0 && (a.2.2.1 == 0 && (a.2.2.2.1 == 0 && (b == b && (c == c && (d == d && (e == e && (f == f && (g == g && (h' == h' && (k == k && true))))))))))))=decide (A7Q a):=by
 by_cases h:A7Q a
 ·rw [decide_eq_true h]
  obtain ⟨h1,h2,h3,h4⟩:=h
  have h4:a.2.2.2.1=0:=h4
  simp [h1,h2,h3,h4]
 ·rw [decide_eq_false h]
  cases hq:(a.1 == 32 && (a.2.1 == 0 && (a.2.2.1 == 0 && (a.2.2.2.1 == 0 && (b == b && (c == c && (d == d && (e == e && (f == f && (g == g && (h' == h' && (k == k && true)))))))))))) with
  | false=>rfl
  | true=>exact absurd (A0v hq) h
noncomputable def C0D:List (FuncId × FnC):=L0
theorem B66 {G:Nat→Option Obj} (hst:C3 Tryd.prog G gl H0 n0):I2 Tryd.prog G gl C0D:=.nil
def O9:List U→Option (Nat × List U)
 | [.int .i64 b,.int .i64 m0,.int .i64 m1,.int .i64 wd,.int .i64 at_,.int .i64 un,.int .i64 fk,.int .i64 fn,.int .i64 bk,.int .i64 bn,.int .i64 lk,.int .i64 ln]=>some (0,[.bool (decide (A7Q (b,m0,m1,wd,at_,un,fk,fn,bk,bn,lk,ln)))])
 | _=>none
theorem L7 (b:Int) (m0:Int) (m1:Int) (wd:Int) (at_:Int) (un:Int) (fk:Int) (fn:Int) (bk:Int) (bn:Int) (lk:Int) (ln:Int):O9 [.int .i64 b,.int .i64 m0,.int .i64 m1,.int .i64 wd,.int .i64 at_,.int .i64 un,.int .i64 fk,.int .i64 fn,.int .i64 bk,.int .i64 bn,.int .i64 lk,.int .i64 ln]=some (0,[.bool (decide (A7Q (b,m0,m1,wd,at_,un,fk,fn,bk,bn,lk,ln)))]):=rfl
def B8K:Tr:=.lt 8 (.eqs) [h 0 3,jI 32,h 1 3,jI 0,h 2 3,jI 0,h 3 3,jI 0,h 4 3,h 4 3,h 5 3,h 5 3,h 6 3,h 6 3,h 7 3,h 7 3,h 8 3,h 8 3,h 9 3,h 9 3,h 10 3,h 10 3,h 11 3,h 11 3] <| .ret [h 12 8]
theorem B8L {G:Nat→Option Obj} (hst:C3 Tryd.prog G gl H0 n0):Q2 Tryd.prog G 67 [.a [3,3,3,3,3,3,3,3,3,3,3,3]] O9 [.s 8]:=by
 refine F2 (C:=cx C0D []) (d:=60) B8K (cxg (B66 hst) .nil) hst ⟨Tryd.f67,_,Tryd.func67,rfl⟩ (by kernel_rfl) (by kernel_rfl) ?_
 intro us outs hs
 unfold O9 at hs
 split at hs
 ·skip
  rename_i b m0 m1 wd at_ un fk fn bk bn lk ln
  cases hs
  unfold B8K
  refine s0 (.cons 11 _ (.cons 10 _ (.cons 9 _ (.cons 8 _ (.cons 7 _ (.cons 6 _ (.cons 5 _ (.cons 4 _ (.cons 3 _ (.cons 2 _ (.cons 1 _ (.cons 0 _ (.nil))))))))))))) rfl (by simp [Ev.ok,Ev.len]) ?_
  refine s1 rfl rfl rfl rfl ?_
  refine s7 [.bool _] rfl ?_
  first|exact congrArg (fun z=>[U.bool z]) (C5Y (a:=(b,m0,m1,wd,at_,un,fk,fn,bk,bn,lk,ln)))
 ·cases hs
set_option maxHeartbeats 4000000
def C1D (rows:Option (List Row)) (r c:Int):Prop:=0≤r∧r < ((el rows).length:Int)∧0≤c∧c≤F4 rows
def C5g (rows:Option (List Row)) (fr fc tr tc:Int):Prop:=C1D rows fr fc∧C1D rows tr tc∧¬(tr < fr∨(tr=fr∧tc < fc))
instance (rows:Option (List Row)) (r c:Int):Decidable (C1D rows r c):=by unfold C1D; infer_instance
instance (rows:Option (List Row)) (fr fc tr tc:Int):Decidable (C5g rows fr fc tr tc):=by unfold C5g; infer_instance
theorem B7_ {rows:Option (List Row)} (h:Y2 rows=0) (i:Nat):((el ((el rows).getD i default).1).length:Int)≤80:=by
 have hc:=A0h h
 rw [B2]
 cases hi:(el rows)[i]? with
 | none=>show ((el (none:Option (List Cel))).length:Int)≤80; decide
 | some m=>have:=((A0g h).2.2 m (D3 hi)).2; show ((el m.1).length:Int)≤80; omega
def C1u (rows:Option (List Row)) (r c:Int):Prop:=0≤r∧r < ((el rows).length:Int)∧0≤c∧c≤F4 rows - 1
def C6e (rows:Option (List Row)) (pr pc qr qc:Int):Prop:=C1u rows pr pc∧C1u rows qr qc
instance (rows:Option (List Row)) (r c:Int):Decidable (C1u rows r c):=by unfold C1u; infer_instance
instance (rows:Option (List Row)) (fr fc tr tc:Int):Decidable (C6e rows fr fc tr tc):=by unfold C6e; infer_instance
end Go.Proofs.YtdkdbjgkedahfaaDoor
