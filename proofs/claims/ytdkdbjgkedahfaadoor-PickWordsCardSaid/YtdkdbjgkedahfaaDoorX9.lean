/- The law PickWords: for every input the call returns true, and the arguments read behind it as they read before. No condition. -/
import Derived.Test.YtdkdbjgkedahfaaDoorX8
namespace Go.Proofs.YtdkdbjgkedahfaaDoor
set_option linter.all false
open Go Go.Sx
set_option maxRecDepth 100000
set_option linter.unusedVariables false
set_option linter.unusedSimpArgs false
def rB:Rw Int:=r1 (cInt .u8)
def rDr:Rw (Int × (Option (List Int)) × Bool):=rC (cInt .u8) (rC (cSl rB) (r1 cBool))
def rCl:Rw (Int × Int × Int × Int × Int × Int × Int × Int × Int × Int × Int × Int):=rC (cInt .i64) (rC (cInt .i64) (rC (cInt .i64) (rC (cInt .i64) (rC (cInt .i64) (rC (cInt .i64) (rC (cInt .i64) (rC (cInt .i64) (rC (cInt .i64) (rC (cInt .i64) (rC (cInt .i64) (r1 (cInt .i64))))))))))))
def rRw:Rw ((Option (List (Int × Int × Int × Int × Int × Int × Int × Int × Int × Int × Int × Int))) × Bool):=rC (cSl rCl) (r1 cBool)
def inM (c:Int):Prop:=(768≤c∧c≤879)∨(1155≤c∧c≤1161)∨(1425≤c∧c≤1469)∨(1552≤c∧c≤1562)∨(1611≤c∧c≤1631)∨(6832≤c∧c≤6911)∨(7616≤c∧c≤7679)∨(8203≤c∧c≤8207)∨(8400≤c∧c≤8447)∨(65024≤c∧c≤65039)∨(65056≤c∧c≤65071)
def inW (c:Int):Prop:=(4352≤c∧c≤4447)∨(11904≤c∧c≤12350)∨(12353≤c∧c≤19903)∨(19968≤c∧c≤42191)∨(44032≤c∧c≤55203)∨(63744≤c∧c≤64255)∨(65072≤c∧c≤65135)∨(65280≤c∧c≤65376)∨(65504≤c∧c≤65510)∨(127744≤c∧c≤128591)∨(128640≤c∧c≤128767)∨(129280≤c∧c≤129535)∨(131072≤c∧c≤262141)
instance (c:Int):Decidable (inM c):=by unfold inM; infer_instance
instance (c:Int):Decidable (inW c):=by unfold inW; infer_instance
def okU (c:Int):Prop:=0≤c∧c≤1114111∧¬(55296≤c∧c≤57343)
instance (c:Int):Decidable (okU c):=by unfold okU; infer_instance
def widS (c:Int):Int:=if ¬okU c∨c≤31∨(127≤c∧c≤159) then -1 else if inM c then 0 else if inW c then 2 else 1
theorem wdl_a {c:Int} (h:¬okU c∨c≤31∨(127≤c∧c≤159)):widS c = -1:=if_pos h
theorem wdl_b {c:Int} (h:¬(¬okU c∨c≤31∨(127≤c∧c≤159))) (h2:inM c):widS c=0:=by unfold widS; rw [if_neg h,if_pos h2]
theorem wdl_c {c:Int} (h:¬(¬okU c∨c≤31∨(127≤c∧c≤159))) (h2:¬inM c) (h3:inW c):widS c=2:=by unfold widS; rw [if_neg h,if_neg h2,if_pos h3]
theorem wdl_d {c:Int} (h:¬(¬okU c∨c≤31∨(127≤c∧c≤159))) (h2:¬inM c) (h3:¬inW c):widS c=1:=by unfold widS; rw [if_neg h,if_neg h2,if_neg h3]
set_option maxHeartbeats 10000000
def wid_s:List U→Option (Nat × List U)
 | [.int .i64 c]=>some (0,[.int .i64 (widS c)])
 | _=>none
theorem wid_s_e (c:Int):wid_s [.int .i64 c]=some (0,[.int .i64 (widS c)]):=rfl
def wid_t:Tr:=.lt 8 (.bin .geq) [h 0 3,.int .i64 (0)] <| .br 1 (.lt 8 (.bin .leq) [h 0 3,.int .i64 (1114111)] <| .br 2 (.lt 3 (.bin .shr) [h 0 3,.int .u64 (11)] <| .lt 8 (.bin .neq) [h 3 3,.int .i64 (27)] <| .lt 8 (.un .not) [h 4 8] <| .br 5 (.ret [.int .i64 (-1)]) (.lt 8 (.bin .geq) [h 0 3,.int .i64 (0)] <| .br 6 (.lt 8 (.bin .leq) [h 0 3,.int .i64 (31)] <| .br 7 (.ret [.int .i64 (-1)]) (.lt 8 (.bin .geq) [h 0 3,.int .i64 (127)] <| .br 8 (.lt 8 (.bin .leq) [h 0 3,.int .i64 (159)] <| .br 9 (.ret [.int .i64 (-1)]) (.lt 8 (.bin .lss) [h 0 3,.int .i64 (768)] <| .br 10 (.ret [.int .i64 (1)]) (.lt 8 (.bin .geq) [h 0 3,.int .i64 (768)] <| .br 11 (.lt 8 (.bin .leq) [h 0 3,.int .i64 (879)] <| .br 12 (.ret [.int .i64 (0)]) (.lt 8 (.bin .geq) [h 0 3,.int .i64 (1155)] <| .br 13 (.lt 8 (.bin .leq) [h 0 3,.int .i64 (1161)] <| .br 14 (.ret [.int .i64 (0)]) (.lt 8 (.bin .geq) [h 0 3,.int .i64 (1425)] <| .br 15 (.lt 8 (.bin .leq) [h 0 3,.int .i64 (1469)] <| .br 16 (.ret [.int .i64 (0)]) (.lt 8 (.bin .geq) [h 0 3,.int .i64 (1552)] <| .br 17 (.lt 8 (.bin .leq) [h 0 3,.int .i64 (1562)] <| .br 18 (.ret [.int .i64 (0)]) (.lt 8 (.bin .geq) [h 0 3,.int .i64 (1611)] <| .br 19 (.lt 8 (.bin .leq) [h 0 3,.int .i64 (1631)] <| .br 20 (.ret [.int .i64 (0)]) (.lt 8 (.bin .geq) [h 0 3,.int .i64 (6832)] <| .br 21 (.lt 8 (.bin .leq) [h 0 3,.int .i64 (6911)] <| .br 22 (.ret [.int .i64 (0)]) (.lt 8 (.bin .geq) [h 0 3,.int .i64 (7616)] <| .br 23 (.lt 8 (.bin .leq) [h 0 3,.int .i64 (7679)] <| .br 24 (.ret [.int .i64 (0)]) (.lt 8 (.bin .geq) [h 0 3,.int .i64 (8203)] <| .br 25 (.lt 8 (.bin .leq) [h 0 3,.int .i64 (8207)] <| .br 26 (.ret [.int .i64 (0)]) (.lt 8 (.bin .geq) [h 0 3,.int .i64 (8400)] <| .br 27 (.lt 8 (.bin .leq) [h 0 3,.int .i64 (8447)] <| .br 28 (.ret [.int .i64 (0)]) (.lt 8 (.bin .geq) [h 0 3,.int .i64 (65024)] <| .br 29 (.lt 8 (.bin .leq) [h 0 3,.int .i64 (65039)] <| .br 30 (.ret [.int .i64 (0)]) (.lt 8 (.bin .geq) [h 0 3,.int .i64 (65056)] <| .br 31 (.lt 8 (.bin .leq) [h 0 3,.int .i64 (65071)] <| .br 32 (.ret [.int .i64 (0)]) (.lt 8 (.bin .geq) [h 0 3,.int .i64 (4352)] <| .br 33 (.lt 8 (.bin .leq) [h 0 3,.int .i64 (4447)] <| .br 34 (.no) (.lt 8 (.bin .geq) [h 0 3,.int .i64 (11904)] <| .br 35 (.lt 8 (.bin .leq) [h 0 3,.int .i64 (12350)] <| .br 36 (.no) (.lt 8 (.bin .geq) [h 0 3,.int .i64 (12353)] <| .br 37 (.lt 8 (.bin .leq) [h 0 3,.int .i64 (19903)] <| .br 38 (.no) (.lt 8 (.bin .geq) [h 0 3,.int .i64 (19968)] <| .br 39 (.lt 8 (.bin .leq) [h 0 3,.int .i64 (42191)] <| .br 40 (.no) (.lt 8 (.bin .geq) [h 0 3,.int .i64 (44032)] <| .br 41 (.lt 8 (.bin .leq) [h 0 3,.int .i64 (55203)] <| .br 42 (.no) (.lt 8 (.bin .geq) [h 0 3,.int .i64 (63744)] <| .br 43 (.lt 8 (.bin .leq) [h 0 3,.int .i64 (64255)] <| .br 44 (.no) (.lt 8 (.bin .geq) [h 0 3,.int .i64 (65072)] <| .br 45 (.lt 8 (.bin .leq) [h 0 3,.int .i64 (65135)] <| .br 46 (.ret [.int .i64 (2)]) (.lt 8 (.bin .geq) [h 0 3,.int .i64 (65280)] <| .br 47 (.lt 8 (.bin .leq) [h 0 3,.int .i64 (65376)] <| .br 48 (.ret [.int .i64 (2)]) (.lt 8 (.bin .geq) [h 0 3,.int .i64 (65504)] <| .br 49 (.lt 8 (.bin .leq) [h 0 3,.int .i64 (65510)] <| .br 50 (.ret [.int .i64 (2)]) (.lt 8 (.bin .geq) [h 0 3,.int .i64 (127744)] <| .br 51 (.lt 8 (.bin .leq) [h 0 3,.int .i64 (128591)] <| .br 52 (.ret [.int .i64 (2)]) (.lt 8 (.bin .geq) [h 0 3,.int .i64 (128640)] <| .br 53 (.lt 8 (.bin .leq) [h 0 3,.int .i64 (128767)] <| .br 54 (.ret [.int .i64 (2)]) (.lt 8 (.bin .geq) [h 0 3,.int .i64 (129280)] <| .br 55 (.lt 8 (.bin .leq) [h 0 3,.int .i64 (129535)] <| .br 56 (.ret [.int .i64 (2)]) (.lt 8 (.bin .geq) [h 0 3,.int .i64 (131072)] <| .br 57 (.lt 8 (.bin .leq) [h 0 3,.int .i64 (262141)] <| .br 58 (.ret [.int .i64 (2)]) (.ret [.int .i64 (1)])) (.ret [.int .i64 (1)]))) (.lt 8 (.bin .geq) [h 0 3,.int .i64 (131072)] <| .br 56 (.no) (.ret [.int .i64 (1)])))) (.lt 8 (.bin .geq) [h 0 3,.int .i64 (129280)] <| .br 54 (.no) (.lt 8 (.bin .geq) [h 0 3,.int .i64 (131072)] <| .br 55 (.no) (.ret [.int .i64 (1)]))))) (.lt 8 (.bin .geq) [h 0 3,.int .i64 (128640)] <| .br 52 (.no) (.lt 8 (.bin .geq) [h 0 3,.int .i64 (129280)] <| .br 53 (.no) (.lt 8 (.bin .geq) [h 0 3,.int .i64 (131072)] <| .br 54 (.no) (.ret [.int .i64 (1)])))))) (.lt 8 (.bin .geq) [h 0 3,.int .i64 (127744)] <| .br 50 (.no) (.lt 8 (.bin .geq) [h 0 3,.int .i64 (128640)] <| .br 51 (.no) (.lt 8 (.bin .geq) [h 0 3,.int .i64 (129280)] <| .br 52 (.no) (.lt 8 (.bin .geq) [h 0 3,.int .i64 (131072)] <| .br 53 (.no) (.ret [.int .i64 (1)]))))))) (.lt 8 (.bin .geq) [h 0 3,.int .i64 (65504)] <| .br 48 (.no) (.lt 8 (.bin .geq) [h 0 3,.int .i64 (127744)] <| .br 49 (.no) (.lt 8 (.bin .geq) [h 0 3,.int .i64 (128640)] <| .br 50 (.no) (.lt 8 (.bin .geq) [h 0 3,.int .i64 (129280)] <| .br 51 (.no) (.lt 8 (.bin .geq) [h 0 3,.int .i64 (131072)] <| .br 52 (.no) (.ret [.int .i64 (1)])))))))) (.no))) (.no))) (.no))) (.no))) (.no))) (.no))) (.no))) (.lt 8 (.bin .geq) [h 0 3,.int .i64 (4352)] <| .br 32 (.lt 8 (.bin .leq) [h 0 3,.int .i64 (4447)] <| .br 33 (.no) (.lt 8 (.bin .geq) [h 0 3,.int .i64 (11904)] <| .br 34 (.lt 8 (.bin .leq) [h 0 3,.int .i64 (12350)] <| .br 35 (.no) (.lt 8 (.bin .geq) [h 0 3,.int .i64 (12353)] <| .br 36 (.lt 8 (.bin .leq) [h 0 3,.int .i64 (19903)] <| .br 37 (.no) (.lt 8 (.bin .geq) [h 0 3,.int .i64 (19968)] <| .br 38 (.lt 8 (.bin .leq) [h 0 3,.int .i64 (42191)] <| .br 39 (.no) (.lt 8 (.bin .geq) [h 0 3,.int .i64 (44032)] <| .br 40 (.lt 8 (.bin .leq) [h 0 3,.int .i64 (55203)] <| .br 41 (.no) (.lt 8 (.bin .geq) [h 0 3,.int .i64 (63744)] <| .br 42 (.lt 8 (.bin .leq) [h 0 3,.int .i64 (64255)] <| .br 43 (.no) (.lt 8 (.bin .geq) [h 0 3,.int .i64 (65072)] <| .br 44 (.no) (.lt 8 (.bin .geq) [h 0 3,.int .i64 (65280)] <| .br 45 (.no) (.lt 8 (.bin .geq) [h 0 3,.int .i64 (65504)] <| .br 46 (.no) (.lt 8 (.bin .geq) [h 0 3,.int .i64 (127744)] <| .br 47 (.no) (.lt 8 (.bin .geq) [h 0 3,.int .i64 (128640)] <| .br 48 (.no) (.lt 8 (.bin .geq) [h 0 3,.int .i64 (129280)] <| .br 49 (.no) (.lt 8 (.bin .geq) [h 0 3,.int .i64 (131072)] <| .br 50 (.no) (.ret [.int .i64 (1)]))))))))) (.no))) (.no))) (.no))) (.no))) (.no))) (.no)))) (.lt 8 (.bin .geq) [h 0 3,.int .i64 (65056)] <| .br 30 (.no) (.lt 8 (.bin .geq) [h 0 3,.int .i64 (4352)] <| .br 31 (.lt 8 (.bin .leq) [h 0 3,.int .i64 (4447)] <| .br 32 (.no) (.lt 8 (.bin .geq) [h 0 3,.int .i64 (11904)] <| .br 33 (.lt 8 (.bin .leq) [h 0 3,.int .i64 (12350)] <| .br 34 (.ret [.int .i64 (2)]) (.lt 8 (.bin .geq) [h 0 3,.int .i64 (12353)] <| .br 35 (.lt 8 (.bin .leq) [h 0 3,.int .i64 (19903)] <| .br 36 (.ret [.int .i64 (2)]) (.lt 8 (.bin .geq) [h 0 3,.int .i64 (19968)] <| .br 37 (.lt 8 (.bin .leq) [h 0 3,.int .i64 (42191)] <| .br 38 (.ret [.int .i64 (2)]) (.lt 8 (.bin .geq) [h 0 3,.int .i64 (44032)] <| .br 39 (.lt 8 (.bin .leq) [h 0 3,.int .i64 (55203)] <| .br 40 (.ret [.int .i64 (2)]) (.lt 8 (.bin .geq) [h 0 3,.int .i64 (63744)] <| .br 41 (.lt 8 (.bin .leq) [h 0 3,.int .i64 (64255)] <| .br 42 (.ret [.int .i64 (2)]) (.lt 8 (.bin .geq) [h 0 3,.int .i64 (65072)] <| .br 43 (.no) (.lt 8 (.bin .geq) [h 0 3,.int .i64 (65280)] <| .br 44 (.no) (.lt 8 (.bin .geq) [h 0 3,.int .i64 (65504)] <| .br 45 (.no) (.lt 8 (.bin .geq) [h 0 3,.int .i64 (127744)] <| .br 46 (.no) (.lt 8 (.bin .geq) [h 0 3,.int .i64 (128640)] <| .br 47 (.no) (.lt 8 (.bin .geq) [h 0 3,.int .i64 (129280)] <| .br 48 (.no) (.lt 8 (.bin .geq) [h 0 3,.int .i64 (131072)] <| .br 49 (.no) (.ret [.int .i64 (1)]))))))))) (.lt 8 (.bin .geq) [h 0 3,.int .i64 (65072)] <| .br 42 (.no) (.lt 8 (.bin .geq) [h 0 3,.int .i64 (65280)] <| .br 43 (.no) (.lt 8 (.bin .geq) [h 0 3,.int .i64 (65504)] <| .br 44 (.no) (.lt 8 (.bin .geq) [h 0 3,.int .i64 (127744)] <| .br 45 (.no) (.lt 8 (.bin .geq) [h 0 3,.int .i64 (128640)] <| .br 46 (.no) (.lt 8 (.bin .geq) [h 0 3,.int .i64 (129280)] <| .br 47 (.no) (.lt 8 (.bin .geq) [h 0 3,.int .i64 (131072)] <| .br 48 (.no) (.ret [.int .i64 (1)])))))))))) (.lt 8 (.bin .geq) [h 0 3,.int .i64 (63744)] <| .br 40 (.no) (.lt 8 (.bin .geq) [h 0 3,.int .i64 (65072)] <| .br 41 (.no) (.lt 8 (.bin .geq) [h 0 3,.int .i64 (65280)] <| .br 42 (.no) (.lt 8 (.bin .geq) [h 0 3,.int .i64 (65504)] <| .br 43 (.no) (.lt 8 (.bin .geq) [h 0 3,.int .i64 (127744)] <| .br 44 (.no) (.lt 8 (.bin .geq) [h 0 3,.int .i64 (128640)] <| .br 45 (.no) (.lt 8 (.bin .geq) [h 0 3,.int .i64 (129280)] <| .br 46 (.no) (.lt 8 (.bin .geq) [h 0 3,.int .i64 (131072)] <| .br 47 (.no) (.ret [.int .i64 (1)]))))))))))) (.lt 8 (.bin .geq) [h 0 3,.int .i64 (44032)] <| .br 38 (.no) (.lt 8 (.bin .geq) [h 0 3,.int .i64 (63744)] <| .br 39 (.no) (.lt 8 (.bin .geq) [h 0 3,.int .i64 (65072)] <| .br 40 (.no) (.lt 8 (.bin .geq) [h 0 3,.int .i64 (65280)] <| .br 41 (.no) (.lt 8 (.bin .geq) [h 0 3,.int .i64 (65504)] <| .br 42 (.no) (.lt 8 (.bin .geq) [h 0 3,.int .i64 (127744)] <| .br 43 (.no) (.lt 8 (.bin .geq) [h 0 3,.int .i64 (128640)] <| .br 44 (.no) (.lt 8 (.bin .geq) [h 0 3,.int .i64 (129280)] <| .br 45 (.no) (.lt 8 (.bin .geq) [h 0 3,.int .i64 (131072)] <| .br 46 (.no) (.ret [.int .i64 (1)])))))))))))) (.lt 8 (.bin .geq) [h 0 3,.int .i64 (19968)] <| .br 36 (.no) (.lt 8 (.bin .geq) [h 0 3,.int .i64 (44032)] <| .br 37 (.no) (.lt 8 (.bin .geq) [h 0 3,.int .i64 (63744)] <| .br 38 (.no) (.lt 8 (.bin .geq) [h 0 3,.int .i64 (65072)] <| .br 39 (.no) (.lt 8 (.bin .geq) [h 0 3,.int .i64 (65280)] <| .br 40 (.no) (.lt 8 (.bin .geq) [h 0 3,.int .i64 (65504)] <| .br 41 (.no) (.lt 8 (.bin .geq) [h 0 3,.int .i64 (127744)] <| .br 42 (.no) (.lt 8 (.bin .geq) [h 0 3,.int .i64 (128640)] <| .br 43 (.no) (.lt 8 (.bin .geq) [h 0 3,.int .i64 (129280)] <| .br 44 (.no) (.lt 8 (.bin .geq) [h 0 3,.int .i64 (131072)] <| .br 45 (.no) (.ret [.int .i64 (1)]))))))))))))) (.lt 8 (.bin .geq) [h 0 3,.int .i64 (12353)] <| .br 34 (.no) (.lt 8 (.bin .geq) [h 0 3,.int .i64 (19968)] <| .br 35 (.no) (.lt 8 (.bin .geq) [h 0 3,.int .i64 (44032)] <| .br 36 (.no) (.lt 8 (.bin .geq) [h 0 3,.int .i64 (63744)] <| .br 37 (.no) (.lt 8 (.bin .geq) [h 0 3,.int .i64 (65072)] <| .br 38 (.no) (.lt 8 (.bin .geq) [h 0 3,.int .i64 (65280)] <| .br 39 (.no) (.lt 8 (.bin .geq) [h 0 3,.int .i64 (65504)] <| .br 40 (.no) (.lt 8 (.bin .geq) [h 0 3,.int .i64 (127744)] <| .br 41 (.no) (.lt 8 (.bin .geq) [h 0 3,.int .i64 (128640)] <| .br 42 (.no) (.lt 8 (.bin .geq) [h 0 3,.int .i64 (129280)] <| .br 43 (.no) (.lt 8 (.bin .geq) [h 0 3,.int .i64 (131072)] <| .br 44 (.no) (.ret [.int .i64 (1)])))))))))))))) (.no))))) (.lt 8 (.bin .geq) [h 0 3,.int .i64 (65024)] <| .br 28 (.no) (.lt 8 (.bin .geq) [h 0 3,.int .i64 (65056)] <| .br 29 (.no) (.lt 8 (.bin .geq) [h 0 3,.int .i64 (4352)] <| .br 30 (.lt 8 (.bin .leq) [h 0 3,.int .i64 (4447)] <| .br 31 (.no) (.lt 8 (.bin .geq) [h 0 3,.int .i64 (11904)] <| .br 32 (.no) (.lt 8 (.bin .geq) [h 0 3,.int .i64 (12353)] <| .br 33 (.no) (.lt 8 (.bin .geq) [h 0 3,.int .i64 (19968)] <| .br 34 (.no) (.lt 8 (.bin .geq) [h 0 3,.int .i64 (44032)] <| .br 35 (.no) (.lt 8 (.bin .geq) [h 0 3,.int .i64 (63744)] <| .br 36 (.no) (.lt 8 (.bin .geq) [h 0 3,.int .i64 (65072)] <| .br 37 (.no) (.lt 8 (.bin .geq) [h 0 3,.int .i64 (65280)] <| .br 38 (.no) (.lt 8 (.bin .geq) [h 0 3,.int .i64 (65504)] <| .br 39 (.no) (.lt 8 (.bin .geq) [h 0 3,.int .i64 (127744)] <| .br 40 (.no) (.lt 8 (.bin .geq) [h 0 3,.int .i64 (128640)] <| .br 41 (.no) (.lt 8 (.bin .geq) [h 0 3,.int .i64 (129280)] <| .br 42 (.no) (.lt 8 (.bin .geq) [h 0 3,.int .i64 (131072)] <| .br 43 (.no) (.ret [.int .i64 (1)])))))))))))))) (.no)))))) (.lt 8 (.bin .geq) [h 0 3,.int .i64 (8400)] <| .br 26 (.no) (.lt 8 (.bin .geq) [h 0 3,.int .i64 (65024)] <| .br 27 (.no) (.lt 8 (.bin .geq) [h 0 3,.int .i64 (65056)] <| .br 28 (.no) (.lt 8 (.bin .geq) [h 0 3,.int .i64 (4352)] <| .br 29 (.lt 8 (.bin .leq) [h 0 3,.int .i64 (4447)] <| .br 30 (.no) (.lt 8 (.bin .geq) [h 0 3,.int .i64 (11904)] <| .br 31 (.no) (.lt 8 (.bin .geq) [h 0 3,.int .i64 (12353)] <| .br 32 (.no) (.lt 8 (.bin .geq) [h 0 3,.int .i64 (19968)] <| .br 33 (.no) (.lt 8 (.bin .geq) [h 0 3,.int .i64 (44032)] <| .br 34 (.no) (.lt 8 (.bin .geq) [h 0 3,.int .i64 (63744)] <| .br 35 (.no) (.lt 8 (.bin .geq) [h 0 3,.int .i64 (65072)] <| .br 36 (.no) (.lt 8 (.bin .geq) [h 0 3,.int .i64 (65280)] <| .br 37 (.no) (.lt 8 (.bin .geq) [h 0 3,.int .i64 (65504)] <| .br 38 (.no) (.lt 8 (.bin .geq) [h 0 3,.int .i64 (127744)] <| .br 39 (.no) (.lt 8 (.bin .geq) [h 0 3,.int .i64 (128640)] <| .br 40 (.no) (.lt 8 (.bin .geq) [h 0 3,.int .i64 (129280)] <| .br 41 (.no) (.lt 8 (.bin .geq) [h 0 3,.int .i64 (131072)] <| .br 42 (.no) (.ret [.int .i64 (1)])))))))))))))) (.no))))))) (.lt 8 (.bin .geq) [h 0 3,.int .i64 (8203)] <| .br 24 (.no) (.lt 8 (.bin .geq) [h 0 3,.int .i64 (8400)] <| .br 25 (.no) (.lt 8 (.bin .geq) [h 0 3,.int .i64 (65024)] <| .br 26 (.no) (.lt 8 (.bin .geq) [h 0 3,.int .i64 (65056)] <| .br 27 (.no) (.lt 8 (.bin .geq) [h 0 3,.int .i64 (4352)] <| .br 28 (.lt 8 (.bin .leq) [h 0 3,.int .i64 (4447)] <| .br 29 (.no) (.lt 8 (.bin .geq) [h 0 3,.int .i64 (11904)] <| .br 30 (.no) (.lt 8 (.bin .geq) [h 0 3,.int .i64 (12353)] <| .br 31 (.no) (.lt 8 (.bin .geq) [h 0 3,.int .i64 (19968)] <| .br 32 (.no) (.lt 8 (.bin .geq) [h 0 3,.int .i64 (44032)] <| .br 33 (.no) (.lt 8 (.bin .geq) [h 0 3,.int .i64 (63744)] <| .br 34 (.no) (.lt 8 (.bin .geq) [h 0 3,.int .i64 (65072)] <| .br 35 (.no) (.lt 8 (.bin .geq) [h 0 3,.int .i64 (65280)] <| .br 36 (.no) (.lt 8 (.bin .geq) [h 0 3,.int .i64 (65504)] <| .br 37 (.no) (.lt 8 (.bin .geq) [h 0 3,.int .i64 (127744)] <| .br 38 (.no) (.lt 8 (.bin .geq) [h 0 3,.int .i64 (128640)] <| .br 39 (.no) (.lt 8 (.bin .geq) [h 0 3,.int .i64 (129280)] <| .br 40 (.no) (.lt 8 (.bin .geq) [h 0 3,.int .i64 (131072)] <| .br 41 (.no) (.ret [.int .i64 (1)])))))))))))))) (.no)))))))) (.lt 8 (.bin .geq) [h 0 3,.int .i64 (7616)] <| .br 22 (.no) (.lt 8 (.bin .geq) [h 0 3,.int .i64 (8203)] <| .br 23 (.no) (.lt 8 (.bin .geq) [h 0 3,.int .i64 (8400)] <| .br 24 (.no) (.lt 8 (.bin .geq) [h 0 3,.int .i64 (65024)] <| .br 25 (.no) (.lt 8 (.bin .geq) [h 0 3,.int .i64 (65056)] <| .br 26 (.no) (.lt 8 (.bin .geq) [h 0 3,.int .i64 (4352)] <| .br 27 (.lt 8 (.bin .leq) [h 0 3,.int .i64 (4447)] <| .br 28 (.ret [.int .i64 (2)]) (.lt 8 (.bin .geq) [h 0 3,.int .i64 (11904)] <| .br 29 (.no) (.lt 8 (.bin .geq) [h 0 3,.int .i64 (12353)] <| .br 30 (.no) (.lt 8 (.bin .geq) [h 0 3,.int .i64 (19968)] <| .br 31 (.no) (.lt 8 (.bin .geq) [h 0 3,.int .i64 (44032)] <| .br 32 (.no) (.lt 8 (.bin .geq) [h 0 3,.int .i64 (63744)] <| .br 33 (.no) (.lt 8 (.bin .geq) [h 0 3,.int .i64 (65072)] <| .br 34 (.no) (.lt 8 (.bin .geq) [h 0 3,.int .i64 (65280)] <| .br 35 (.no) (.lt 8 (.bin .geq) [h 0 3,.int .i64 (65504)] <| .br 36 (.no) (.lt 8 (.bin .geq) [h 0 3,.int .i64 (127744)] <| .br 37 (.no) (.lt 8 (.bin .geq) [h 0 3,.int .i64 (128640)] <| .br 38 (.no) (.lt 8 (.bin .geq) [h 0 3,.int .i64 (129280)] <| .br 39 (.no) (.lt 8 (.bin .geq) [h 0 3,.int .i64 (131072)] <| .br 40 (.no) (.ret [.int .i64 (1)])))))))))))))) (.lt 8 (.bin .geq) [h 0 3,.int .i64 (11904)] <| .br 28 (.no) (.lt 8 (.bin .geq) [h 0 3,.int .i64 (12353)] <| .br 29 (.no) (.lt 8 (.bin .geq) [h 0 3,.int .i64 (19968)] <| .br 30 (.no) (.lt 8 (.bin .geq) [h 0 3,.int .i64 (44032)] <| .br 31 (.no) (.lt 8 (.bin .geq) [h 0 3,.int .i64 (63744)] <| .br 32 (.no) (.lt 8 (.bin .geq) [h 0 3,.int .i64 (65072)] <| .br 33 (.no) (.lt 8 (.bin .geq) [h 0 3,.int .i64 (65280)] <| .br 34 (.no) (.lt 8 (.bin .geq) [h 0 3,.int .i64 (65504)] <| .br 35 (.no) (.lt 8 (.bin .geq) [h 0 3,.int .i64 (127744)] <| .br 36 (.no) (.lt 8 (.bin .geq) [h 0 3,.int .i64 (128640)] <| .br 37 (.no) (.lt 8 (.bin .geq) [h 0 3,.int .i64 (129280)] <| .br 38 (.no) (.lt 8 (.bin .geq) [h 0 3,.int .i64 (131072)] <| .br 39 (.no) (.ret [.int .i64 (1)]))))))))))))))))))))) (.lt 8 (.bin .geq) [h 0 3,.int .i64 (6832)] <| .br 20 (.no) (.lt 8 (.bin .geq) [h 0 3,.int .i64 (7616)] <| .br 21 (.no) (.lt 8 (.bin .geq) [h 0 3,.int .i64 (8203)] <| .br 22 (.no) (.lt 8 (.bin .geq) [h 0 3,.int .i64 (8400)] <| .br 23 (.no) (.lt 8 (.bin .geq) [h 0 3,.int .i64 (65024)] <| .br 24 (.no) (.lt 8 (.bin .geq) [h 0 3,.int .i64 (65056)] <| .br 25 (.no) (.lt 8 (.bin .geq) [h 0 3,.int .i64 (4352)] <| .br 26 (.no) (.lt 8 (.bin .geq) [h 0 3,.int .i64 (11904)] <| .br 27 (.no) (.lt 8 (.bin .geq) [h 0 3,.int .i64 (12353)] <| .br 28 (.no) (.lt 8 (.bin .geq) [h 0 3,.int .i64 (19968)] <| .br 29 (.no) (.lt 8 (.bin .geq) [h 0 3,.int .i64 (44032)] <| .br 30 (.no) (.lt 8 (.bin .geq) [h 0 3,.int .i64 (63744)] <| .br 31 (.no) (.lt 8 (.bin .geq) [h 0 3,.int .i64 (65072)] <| .br 32 (.no) (.lt 8 (.bin .geq) [h 0 3,.int .i64 (65280)] <| .br 33 (.no) (.lt 8 (.bin .geq) [h 0 3,.int .i64 (65504)] <| .br 34 (.no) (.lt 8 (.bin .geq) [h 0 3,.int .i64 (127744)] <| .br 35 (.no) (.lt 8 (.bin .geq) [h 0 3,.int .i64 (128640)] <| .br 36 (.no) (.lt 8 (.bin .geq) [h 0 3,.int .i64 (129280)] <| .br 37 (.no) (.lt 8 (.bin .geq) [h 0 3,.int .i64 (131072)] <| .br 38 (.no) (.ret [.int .i64 (1)])))))))))))))))))))))) (.lt 8 (.bin .geq) [h 0 3,.int .i64 (1611)] <| .br 18 (.no) (.lt 8 (.bin .geq) [h 0 3,.int .i64 (6832)] <| .br 19 (.no) (.lt 8 (.bin .geq) [h 0 3,.int .i64 (7616)] <| .br 20 (.no) (.lt 8 (.bin .geq) [h 0 3,.int .i64 (8203)] <| .br 21 (.no) (.lt 8 (.bin .geq) [h 0 3,.int .i64 (8400)] <| .br 22 (.no) (.lt 8 (.bin .geq) [h 0 3,.int .i64 (65024)] <| .br 23 (.no) (.lt 8 (.bin .geq) [h 0 3,.int .i64 (65056)] <| .br 24 (.no) (.lt 8 (.bin .geq) [h 0 3,.int .i64 (4352)] <| .br 25 (.no) (.lt 8 (.bin .geq) [h 0 3,.int .i64 (11904)] <| .br 26 (.no) (.lt 8 (.bin .geq) [h 0 3,.int .i64 (12353)] <| .br 27 (.no) (.lt 8 (.bin .geq) [h 0 3,.int .i64 (19968)] <| .br 28 (.no) (.lt 8 (.bin .geq) [h 0 3,.int .i64 (44032)] <| .br 29 (.no) (.lt 8 (.bin .geq) [h 0 3,.int .i64 (63744)] <| .br 30 (.no) (.lt 8 (.bin .geq) [h 0 3,.int .i64 (65072)] <| .br 31 (.no) (.lt 8 (.bin .geq) [h 0 3,.int .i64 (65280)] <| .br 32 (.no) (.lt 8 (.bin .geq) [h 0 3,.int .i64 (65504)] <| .br 33 (.no) (.lt 8 (.bin .geq) [h 0 3,.int .i64 (127744)] <| .br 34 (.no) (.lt 8 (.bin .geq) [h 0 3,.int .i64 (128640)] <| .br 35 (.no) (.lt 8 (.bin .geq) [h 0 3,.int .i64 (129280)] <| .br 36 (.no) (.lt 8 (.bin .geq) [h 0 3,.int .i64 (131072)] <| .br 37 (.no) (.ret [.int .i64 (1)]))))))))))))))))))))))) (.lt 8 (.bin .geq) [h 0 3,.int .i64 (1552)] <| .br 16 (.no) (.lt 8 (.bin .geq) [h 0 3,.int .i64 (1611)] <| .br 17 (.no) (.lt 8 (.bin .geq) [h 0 3,.int .i64 (6832)] <| .br 18 (.no) (.lt 8 (.bin .geq) [h 0 3,.int .i64 (7616)] <| .br 19 (.no) (.lt 8 (.bin .geq) [h 0 3,.int .i64 (8203)] <| .br 20 (.no) (.lt 8 (.bin .geq) [h 0 3,.int .i64 (8400)] <| .br 21 (.no) (.lt 8 (.bin .geq) [h 0 3,.int .i64 (65024)] <| .br 22 (.no) (.lt 8 (.bin .geq) [h 0 3,.int .i64 (65056)] <| .br 23 (.no) (.lt 8 (.bin .geq) [h 0 3,.int .i64 (4352)] <| .br 24 (.no) (.lt 8 (.bin .geq) [h 0 3,.int .i64 (11904)] <| .br 25 (.no) (.lt 8 (.bin .geq) [h 0 3,.int .i64 (12353)] <| .br 26 (.no) (.lt 8 (.bin .geq) [h 0 3,.int .i64 (19968)] <| .br 27 (.no) (.lt 8 (.bin .geq) [h 0 3,.int .i64 (44032)] <| .br 28 (.no) (.lt 8 (.bin .geq) [h 0 3,.int .i64 (63744)] <| .br 29 (.no) (.lt 8 (.bin .geq) [h 0 3,.int .i64 (65072)] <| .br 30 (.no) (.lt 8 (.bin .geq) [h 0 3,.int .i64 (65280)] <| .br 31 (.no) (.lt 8 (.bin .geq) [h 0 3,.int .i64 (65504)] <| .br 32 (.no) (.lt 8 (.bin .geq) [h 0 3,.int .i64 (127744)] <| .br 33 (.no) (.lt 8 (.bin .geq) [h 0 3,.int .i64 (128640)] <| .br 34 (.no) (.lt 8 (.bin .geq) [h 0 3,.int .i64 (129280)] <| .br 35 (.no) (.lt 8 (.bin .geq) [h 0 3,.int .i64 (131072)] <| .br 36 (.no) (.ret [.int .i64 (1)])))))))))))))))))))))))) (.lt 8 (.bin .geq) [h 0 3,.int .i64 (1425)] <| .br 14 (.no) (.lt 8 (.bin .geq) [h 0 3,.int .i64 (1552)] <| .br 15 (.no) (.lt 8 (.bin .geq) [h 0 3,.int .i64 (1611)] <| .br 16 (.no) (.lt 8 (.bin .geq) [h 0 3,.int .i64 (6832)] <| .br 17 (.no) (.lt 8 (.bin .geq) [h 0 3,.int .i64 (7616)] <| .br 18 (.no) (.lt 8 (.bin .geq) [h 0 3,.int .i64 (8203)] <| .br 19 (.no) (.lt 8 (.bin .geq) [h 0 3,.int .i64 (8400)] <| .br 20 (.no) (.lt 8 (.bin .geq) [h 0 3,.int .i64 (65024)] <| .br 21 (.no) (.lt 8 (.bin .geq) [h 0 3,.int .i64 (65056)] <| .br 22 (.no) (.lt 8 (.bin .geq) [h 0 3,.int .i64 (4352)] <| .br 23 (.no) (.lt 8 (.bin .geq) [h 0 3,.int .i64 (11904)] <| .br 24 (.no) (.lt 8 (.bin .geq) [h 0 3,.int .i64 (12353)] <| .br 25 (.no) (.lt 8 (.bin .geq) [h 0 3,.int .i64 (19968)] <| .br 26 (.no) (.lt 8 (.bin .geq) [h 0 3,.int .i64 (44032)] <| .br 27 (.no) (.lt 8 (.bin .geq) [h 0 3,.int .i64 (63744)] <| .br 28 (.no) (.lt 8 (.bin .geq) [h 0 3,.int .i64 (65072)] <| .br 29 (.no) (.lt 8 (.bin .geq) [h 0 3,.int .i64 (65280)] <| .br 30 (.no) (.lt 8 (.bin .geq) [h 0 3,.int .i64 (65504)] <| .br 31 (.no) (.lt 8 (.bin .geq) [h 0 3,.int .i64 (127744)] <| .br 32 (.no) (.lt 8 (.bin .geq) [h 0 3,.int .i64 (128640)] <| .br 33 (.no) (.lt 8 (.bin .geq) [h 0 3,.int .i64 (129280)] <| .br 34 (.no) (.lt 8 (.bin .geq) [h 0 3,.int .i64 (131072)] <| .br 35 (.no) (.ret [.int .i64 (1)]))))))))))))))))))))))))) (.no)))) (.lt 8 (.bin .lss) [h 0 3,.int .i64 (768)] <| .br 9 (.ret [.int .i64 (1)]) (.no)))) (.no))) (.ret [.int .i64 (-1)])) (.ret [.int .i64 (-1)])
theorem wid_c {G:Nat→Option Obj} (hst:StartOk Tryd.prog G gl H0 n0):ConOk Tryd.prog G 105 [.s 3] wid_s [.s 3]:=by
 refine con_of_tree (C:=cx L0 []) (d:=60) wid_t (cxg (L0_ok hst) .nil) hst ⟨Tryd.f105,_,Tryd.func105,rfl⟩ (by kernel_rfl) (by kernel_rfl) ?_
 intro us outs hs
 unfold wid_s at hs
 split at hs
 ·skip
  rename_i c
  cases hs
  unfold wid_t
  refine s0 (.cons 0 _ (.nil)) rfl (by simp [Ev.ok,Ev.len]) ?_
  refine s1 (ev_geq _ _ _) rfl rfl rfl ?_
  refine s5 rfl (fun g0=>?_) fun g0=>?_
  ·refine s7 [.int .i64 _] rfl ?_
   refine congrArg (fun z=>[U.int .i64 z]) ?_; symm; first|exact wdl_a (by unfold okU; omega)|exact wdl_b (by unfold okU; omega) (by unfold inM; omega)|exact wdl_c (by unfold okU; omega) (by unfold inM; omega) (by unfold inW; omega)|exact wdl_d (by unfold okU; omega) (by unfold inM; omega) (by unfold inW; omega)
  refine s1 (ev_leq _ _ _) rfl rfl rfl ?_
  refine s5 rfl (fun g1=>?_) fun g1=>?_
  ·refine s7 [.int .i64 _] rfl ?_
   refine congrArg (fun z=>[U.int .i64 z]) ?_; symm; first|exact wdl_a (by unfold okU; omega)|exact wdl_b (by unfold okU; omega) (by unfold inM; omega)|exact wdl_c (by unfold okU; omega) (by unfold inM; omega) (by unfold inW; omega)|exact wdl_d (by unfold okU; omega) (by unfold inM; omega) (by unfold inW; omega)
  refine s1 (ev_shrL 2048 (by decide) (by decide)) rfl rfl rfl ?_
  refine s1 (ev_neq _ _ _) rfl rfl rfl ?_
  refine s1 (ev_notD _) rfl rfl rfl ?_
  refine s4 rfl (fun g2=>?_) fun g2=>?_
  ·refine s7 [.int .i64 _] rfl ?_
   refine congrArg (fun z=>[U.int .i64 z]) ?_; symm; first|exact wdl_a (by unfold okU; omega)|exact wdl_b (by unfold okU; omega) (by unfold inM; omega)|exact wdl_c (by unfold okU; omega) (by unfold inM; omega) (by unfold inW; omega)|exact wdl_d (by unfold okU; omega) (by unfold inM; omega) (by unfold inW; omega)
  refine s1 (ev_geq _ _ _) rfl rfl rfl ?_
  refine s5 rfl (fun g3=>?_) fun g3=>?_
  ·refine s8 ?_
   omega
  refine s1 (ev_leq _ _ _) rfl rfl rfl ?_
  refine s4 rfl (fun g4=>?_) fun g4=>?_
  ·refine s7 [.int .i64 _] rfl ?_
   refine congrArg (fun z=>[U.int .i64 z]) ?_; symm; first|exact wdl_a (by unfold okU; omega)|exact wdl_b (by unfold okU; omega) (by unfold inM; omega)|exact wdl_c (by unfold okU; omega) (by unfold inM; omega) (by unfold inW; omega)|exact wdl_d (by unfold okU; omega) (by unfold inM; omega) (by unfold inW; omega)
  refine s1 (ev_geq _ _ _) rfl rfl rfl ?_
  refine s4 rfl (fun g5=>?_) fun g5=>?_
  ·refine s1 (ev_leq _ _ _) rfl rfl rfl ?_
   refine s4 rfl (fun g6=>?_) fun g6=>?_
   ·refine s7 [.int .i64 _] rfl ?_
    refine congrArg (fun z=>[U.int .i64 z]) ?_; symm; first|exact wdl_a (by unfold okU; omega)|exact wdl_b (by unfold okU; omega) (by unfold inM; omega)|exact wdl_c (by unfold okU; omega) (by unfold inM; omega) (by unfold inW; omega)|exact wdl_d (by unfold okU; omega) (by unfold inM; omega) (by unfold inW; omega)
   refine s1 (ev_lss _ _ _) rfl rfl rfl ?_
   refine s4 rfl (fun g7=>?_) fun g7=>?_
   ·refine s7 [.int .i64 _] rfl ?_
    refine congrArg (fun z=>[U.int .i64 z]) ?_; symm; first|exact wdl_a (by unfold okU; omega)|exact wdl_b (by unfold okU; omega) (by unfold inM; omega)|exact wdl_c (by unfold okU; omega) (by unfold inM; omega) (by unfold inW; omega)|exact wdl_d (by unfold okU; omega) (by unfold inM; omega) (by unfold inW; omega)
   refine s1 (ev_geq _ _ _) rfl rfl rfl ?_
   refine s5 rfl (fun g8=>?_) fun g8=>?_
   ·refine s8 ?_
    omega
   refine s1 (ev_leq _ _ _) rfl rfl rfl ?_
   refine s4 rfl (fun g9=>?_) fun g9=>?_
   ·refine s7 [.int .i64 _] rfl ?_
    refine congrArg (fun z=>[U.int .i64 z]) ?_; symm; first|exact wdl_a (by unfold okU; omega)|exact wdl_b (by unfold okU; omega) (by unfold inM; omega)|exact wdl_c (by unfold okU; omega) (by unfold inM; omega) (by unfold inW; omega)|exact wdl_d (by unfold okU; omega) (by unfold inM; omega) (by unfold inW; omega)
   refine s1 (ev_geq _ _ _) rfl rfl rfl ?_
   refine s4 rfl (fun g10=>?_) fun g10=>?_
   ·refine s1 (ev_leq _ _ _) rfl rfl rfl ?_
    refine s4 rfl (fun g11=>?_) fun g11=>?_
    ·refine s7 [.int .i64 _] rfl ?_
     refine congrArg (fun z=>[U.int .i64 z]) ?_; symm; first|exact wdl_a (by unfold okU; omega)|exact wdl_b (by unfold okU; omega) (by unfold inM; omega)|exact wdl_c (by unfold okU; omega) (by unfold inM; omega) (by unfold inW; omega)|exact wdl_d (by unfold okU; omega) (by unfold inM; omega) (by unfold inW; omega)
    refine s1 (ev_geq _ _ _) rfl rfl rfl ?_
    refine s4 rfl (fun g12=>?_) fun g12=>?_
    ·refine s1 (ev_leq _ _ _) rfl rfl rfl ?_
     refine s4 rfl (fun g13=>?_) fun g13=>?_
     ·refine s7 [.int .i64 _] rfl ?_
      refine congrArg (fun z=>[U.int .i64 z]) ?_; symm; first|exact wdl_a (by unfold okU; omega)|exact wdl_b (by unfold okU; omega) (by unfold inM; omega)|exact wdl_c (by unfold okU; omega) (by unfold inM; omega) (by unfold inW; omega)|exact wdl_d (by unfold okU; omega) (by unfold inM; omega) (by unfold inW; omega)
     refine s1 (ev_geq _ _ _) rfl rfl rfl ?_
     refine s4 rfl (fun g14=>?_) fun g14=>?_
     ·refine s1 (ev_leq _ _ _) rfl rfl rfl ?_
      refine s4 rfl (fun g15=>?_) fun g15=>?_
      ·refine s7 [.int .i64 _] rfl ?_
       refine congrArg (fun z=>[U.int .i64 z]) ?_; symm; first|exact wdl_a (by unfold okU; omega)|exact wdl_b (by unfold okU; omega) (by unfold inM; omega)|exact wdl_c (by unfold okU; omega) (by unfold inM; omega) (by unfold inW; omega)|exact wdl_d (by unfold okU; omega) (by unfold inM; omega) (by unfold inW; omega)
      refine s1 (ev_geq _ _ _) rfl rfl rfl ?_
      refine s4 rfl (fun g16=>?_) fun g16=>?_
      ·refine s1 (ev_leq _ _ _) rfl rfl rfl ?_
       refine s4 rfl (fun g17=>?_) fun g17=>?_
       ·refine s7 [.int .i64 _] rfl ?_
        refine congrArg (fun z=>[U.int .i64 z]) ?_; symm; first|exact wdl_a (by unfold okU; omega)|exact wdl_b (by unfold okU; omega) (by unfold inM; omega)|exact wdl_c (by unfold okU; omega) (by unfold inM; omega) (by unfold inW; omega)|exact wdl_d (by unfold okU; omega) (by unfold inM; omega) (by unfold inW; omega)
       refine s1 (ev_geq _ _ _) rfl rfl rfl ?_
       refine s4 rfl (fun g18=>?_) fun g18=>?_
       ·refine s1 (ev_leq _ _ _) rfl rfl rfl ?_
        refine s4 rfl (fun g19=>?_) fun g19=>?_
        ·refine s7 [.int .i64 _] rfl ?_
         refine congrArg (fun z=>[U.int .i64 z]) ?_; symm; first|exact wdl_a (by unfold okU; omega)|exact wdl_b (by unfold okU; omega) (by unfold inM; omega)|exact wdl_c (by unfold okU; omega) (by unfold inM; omega) (by unfold inW; omega)|exact wdl_d (by unfold okU; omega) (by unfold inM; omega) (by unfold inW; omega)
        refine s1 (ev_geq _ _ _) rfl rfl rfl ?_
        refine s4 rfl (fun g20=>?_) fun g20=>?_
        ·refine s1 (ev_leq _ _ _) rfl rfl rfl ?_
         refine s4 rfl (fun g21=>?_) fun g21=>?_
         ·refine s7 [.int .i64 _] rfl ?_
          refine congrArg (fun z=>[U.int .i64 z]) ?_; symm; first|exact wdl_a (by unfold okU; omega)|exact wdl_b (by unfold okU; omega) (by unfold inM; omega)|exact wdl_c (by unfold okU; omega) (by unfold inM; omega) (by unfold inW; omega)|exact wdl_d (by unfold okU; omega) (by unfold inM; omega) (by unfold inW; omega)
         refine s1 (ev_geq _ _ _) rfl rfl rfl ?_
         refine s4 rfl (fun g22=>?_) fun g22=>?_
         ·refine s1 (ev_leq _ _ _) rfl rfl rfl ?_
          refine s4 rfl (fun g23=>?_) fun g23=>?_
          ·refine s7 [.int .i64 _] rfl ?_
           refine congrArg (fun z=>[U.int .i64 z]) ?_; symm; first|exact wdl_a (by unfold okU; omega)|exact wdl_b (by unfold okU; omega) (by unfold inM; omega)|exact wdl_c (by unfold okU; omega) (by unfold inM; omega) (by unfold inW; omega)|exact wdl_d (by unfold okU; omega) (by unfold inM; omega) (by unfold inW; omega)
          refine s1 (ev_geq _ _ _) rfl rfl rfl ?_
          refine s4 rfl (fun g24=>?_) fun g24=>?_
          ·refine s1 (ev_leq _ _ _) rfl rfl rfl ?_
           refine s4 rfl (fun g25=>?_) fun g25=>?_
           ·refine s7 [.int .i64 _] rfl ?_
            refine congrArg (fun z=>[U.int .i64 z]) ?_; symm; first|exact wdl_a (by unfold okU; omega)|exact wdl_b (by unfold okU; omega) (by unfold inM; omega)|exact wdl_c (by unfold okU; omega) (by unfold inM; omega) (by unfold inW; omega)|exact wdl_d (by unfold okU; omega) (by unfold inM; omega) (by unfold inW; omega)
           refine s1 (ev_geq _ _ _) rfl rfl rfl ?_
           refine s4 rfl (fun g26=>?_) fun g26=>?_
           ·refine s1 (ev_leq _ _ _) rfl rfl rfl ?_
            refine s4 rfl (fun g27=>?_) fun g27=>?_
            ·refine s7 [.int .i64 _] rfl ?_
             refine congrArg (fun z=>[U.int .i64 z]) ?_; symm; first|exact wdl_a (by unfold okU; omega)|exact wdl_b (by unfold okU; omega) (by unfold inM; omega)|exact wdl_c (by unfold okU; omega) (by unfold inM; omega) (by unfold inW; omega)|exact wdl_d (by unfold okU; omega) (by unfold inM; omega) (by unfold inW; omega)
            refine s1 (ev_geq _ _ _) rfl rfl rfl ?_
            refine s4 rfl (fun g28=>?_) fun g28=>?_
            ·refine s1 (ev_leq _ _ _) rfl rfl rfl ?_
             refine s4 rfl (fun g29=>?_) fun g29=>?_
             ·refine s7 [.int .i64 _] rfl ?_
              refine congrArg (fun z=>[U.int .i64 z]) ?_; symm; first|exact wdl_a (by unfold okU; omega)|exact wdl_b (by unfold okU; omega) (by unfold inM; omega)|exact wdl_c (by unfold okU; omega) (by unfold inM; omega) (by unfold inW; omega)|exact wdl_d (by unfold okU; omega) (by unfold inM; omega) (by unfold inW; omega)
             refine s1 (ev_geq _ _ _) rfl rfl rfl ?_
             refine s5 rfl (fun g30=>?_) fun g30=>?_
             ·refine s8 ?_
              omega
             refine s1 (ev_leq _ _ _) rfl rfl rfl ?_
             refine s4 rfl (fun g31=>?_) fun g31=>?_
             ·refine s8 ?_
              omega
             refine s1 (ev_geq _ _ _) rfl rfl rfl ?_
             refine s5 rfl (fun g32=>?_) fun g32=>?_
             ·refine s8 ?_
              omega
             refine s1 (ev_leq _ _ _) rfl rfl rfl ?_
             refine s4 rfl (fun g33=>?_) fun g33=>?_
             ·refine s8 ?_
              omega
             refine s1 (ev_geq _ _ _) rfl rfl rfl ?_
             refine s5 rfl (fun g34=>?_) fun g34=>?_
             ·refine s8 ?_
              omega
             refine s1 (ev_leq _ _ _) rfl rfl rfl ?_
             refine s4 rfl (fun g35=>?_) fun g35=>?_
             ·refine s8 ?_
              omega
             refine s1 (ev_geq _ _ _) rfl rfl rfl ?_
             refine s5 rfl (fun g36=>?_) fun g36=>?_
             ·refine s8 ?_
              omega
             refine s1 (ev_leq _ _ _) rfl rfl rfl ?_
             refine s4 rfl (fun g37=>?_) fun g37=>?_
             ·refine s8 ?_
              omega
             refine s1 (ev_geq _ _ _) rfl rfl rfl ?_
             refine s5 rfl (fun g38=>?_) fun g38=>?_
             ·refine s8 ?_
              omega
             refine s1 (ev_leq _ _ _) rfl rfl rfl ?_
             refine s4 rfl (fun g39=>?_) fun g39=>?_
             ·refine s8 ?_
              omega
             refine s1 (ev_geq _ _ _) rfl rfl rfl ?_
             refine s5 rfl (fun g40=>?_) fun g40=>?_
             ·refine s8 ?_
              omega
             refine s1 (ev_leq _ _ _) rfl rfl rfl ?_
             refine s4 rfl (fun g41=>?_) fun g41=>?_
             ·refine s8 ?_
              omega
             refine s1 (ev_geq _ _ _) rfl rfl rfl ?_
             refine s5 rfl (fun g42=>?_) fun g42=>?_
             ·refine s8 ?_
              omega
             refine s1 (ev_leq _ _ _) rfl rfl rfl ?_
             refine s4 rfl (fun g43=>?_) fun g43=>?_
             ·refine s7 [.int .i64 _] rfl ?_
              refine congrArg (fun z=>[U.int .i64 z]) ?_; symm; first|exact wdl_a (by unfold okU; omega)|exact wdl_b (by unfold okU; omega) (by unfold inM; omega)|exact wdl_c (by unfold okU; omega) (by unfold inM; omega) (by unfold inW; omega)|exact wdl_d (by unfold okU; omega) (by unfold inM; omega) (by unfold inW; omega)
             refine s1 (ev_geq _ _ _) rfl rfl rfl ?_
             refine s4 rfl (fun g44=>?_) fun g44=>?_
             ·refine s1 (ev_leq _ _ _) rfl rfl rfl ?_
              refine s4 rfl (fun g45=>?_) fun g45=>?_
              ·refine s7 [.int .i64 _] rfl ?_
               refine congrArg (fun z=>[U.int .i64 z]) ?_; symm; first|exact wdl_a (by unfold okU; omega)|exact wdl_b (by unfold okU; omega) (by unfold inM; omega)|exact wdl_c (by unfold okU; omega) (by unfold inM; omega) (by unfold inW; omega)|exact wdl_d (by unfold okU; omega) (by unfold inM; omega) (by unfold inW; omega)
              refine s1 (ev_geq _ _ _) rfl rfl rfl ?_
              refine s4 rfl (fun g46=>?_) fun g46=>?_
              ·refine s1 (ev_leq _ _ _) rfl rfl rfl ?_
               refine s4 rfl (fun g47=>?_) fun g47=>?_
               ·refine s7 [.int .i64 _] rfl ?_
                refine congrArg (fun z=>[U.int .i64 z]) ?_; symm; first|exact wdl_a (by unfold okU; omega)|exact wdl_b (by unfold okU; omega) (by unfold inM; omega)|exact wdl_c (by unfold okU; omega) (by unfold inM; omega) (by unfold inW; omega)|exact wdl_d (by unfold okU; omega) (by unfold inM; omega) (by unfold inW; omega)
               refine s1 (ev_geq _ _ _) rfl rfl rfl ?_
               refine s4 rfl (fun g48=>?_) fun g48=>?_
               ·refine s1 (ev_leq _ _ _) rfl rfl rfl ?_
                refine s4 rfl (fun g49=>?_) fun g49=>?_
                ·refine s7 [.int .i64 _] rfl ?_
                 refine congrArg (fun z=>[U.int .i64 z]) ?_; symm; first|exact wdl_a (by unfold okU; omega)|exact wdl_b (by unfold okU; omega) (by unfold inM; omega)|exact wdl_c (by unfold okU; omega) (by unfold inM; omega) (by unfold inW; omega)|exact wdl_d (by unfold okU; omega) (by unfold inM; omega) (by unfold inW; omega)
                refine s1 (ev_geq _ _ _) rfl rfl rfl ?_
                refine s4 rfl (fun g50=>?_) fun g50=>?_
                ·refine s1 (ev_leq _ _ _) rfl rfl rfl ?_
                 refine s4 rfl (fun g51=>?_) fun g51=>?_
                 ·refine s7 [.int .i64 _] rfl ?_
                  refine congrArg (fun z=>[U.int .i64 z]) ?_; symm; first|exact wdl_a (by unfold okU; omega)|exact wdl_b (by unfold okU; omega) (by unfold inM; omega)|exact wdl_c (by unfold okU; omega) (by unfold inM; omega) (by unfold inW; omega)|exact wdl_d (by unfold okU; omega) (by unfold inM; omega) (by unfold inW; omega)
                 refine s1 (ev_geq _ _ _) rfl rfl rfl ?_
                 refine s4 rfl (fun g52=>?_) fun g52=>?_
                 ·refine s1 (ev_leq _ _ _) rfl rfl rfl ?_
                  refine s4 rfl (fun g53=>?_) fun g53=>?_
                  ·refine s7 [.int .i64 _] rfl ?_
                   refine congrArg (fun z=>[U.int .i64 z]) ?_; symm; first|exact wdl_a (by unfold okU; omega)|exact wdl_b (by unfold okU; omega) (by unfold inM; omega)|exact wdl_c (by unfold okU; omega) (by unfold inM; omega) (by unfold inW; omega)|exact wdl_d (by unfold okU; omega) (by unfold inM; omega) (by unfold inW; omega)
                  refine s1 (ev_geq _ _ _) rfl rfl rfl ?_
                  refine s5 rfl (fun g54=>?_) fun g54=>?_
                  ·refine s7 [.int .i64 _] rfl ?_
                   refine congrArg (fun z=>[U.int .i64 z]) ?_; symm; first|exact wdl_a (by unfold okU; omega)|exact wdl_b (by unfold okU; omega) (by unfold inM; omega)|exact wdl_c (by unfold okU; omega) (by unfold inM; omega) (by unfold inW; omega)|exact wdl_d (by unfold okU; omega) (by unfold inM; omega) (by unfold inW; omega)
                  refine s1 (ev_leq _ _ _) rfl rfl rfl ?_
                  refine s4 rfl (fun g55=>?_) fun g55=>?_
                  ·refine s7 [.int .i64 _] rfl ?_
                   refine congrArg (fun z=>[U.int .i64 z]) ?_; symm; first|exact wdl_a (by unfold okU; omega)|exact wdl_b (by unfold okU; omega) (by unfold inM; omega)|exact wdl_c (by unfold okU; omega) (by unfold inM; omega) (by unfold inW; omega)|exact wdl_d (by unfold okU; omega) (by unfold inM; omega) (by unfold inW; omega)
                  refine s7 [.int .i64 _] rfl ?_
                  refine congrArg (fun z=>[U.int .i64 z]) ?_; symm; first|exact wdl_a (by unfold okU; omega)|exact wdl_b (by unfold okU; omega) (by unfold inM; omega)|exact wdl_c (by unfold okU; omega) (by unfold inM; omega) (by unfold inW; omega)|exact wdl_d (by unfold okU; omega) (by unfold inM; omega) (by unfold inW; omega)
                 refine s1 (ev_geq _ _ _) rfl rfl rfl ?_
                 refine s4 rfl (fun g53=>?_) fun g53=>?_
                 ·refine s8 ?_
                  omega
                 refine s7 [.int .i64 _] rfl ?_
                 refine congrArg (fun z=>[U.int .i64 z]) ?_; symm; first|exact wdl_a (by unfold okU; omega)|exact wdl_b (by unfold okU; omega) (by unfold inM; omega)|exact wdl_c (by unfold okU; omega) (by unfold inM; omega) (by unfold inW; omega)|exact wdl_d (by unfold okU; omega) (by unfold inM; omega) (by unfold inW; omega)
                refine s1 (ev_geq _ _ _) rfl rfl rfl ?_
                refine s4 rfl (fun g51=>?_) fun g51=>?_
                ·refine s8 ?_
                 omega
                refine s1 (ev_geq _ _ _) rfl rfl rfl ?_
                refine s4 rfl (fun g52=>?_) fun g52=>?_
                ·refine s8 ?_
                 omega
                refine s7 [.int .i64 _] rfl ?_
                refine congrArg (fun z=>[U.int .i64 z]) ?_; symm; first|exact wdl_a (by unfold okU; omega)|exact wdl_b (by unfold okU; omega) (by unfold inM; omega)|exact wdl_c (by unfold okU; omega) (by unfold inM; omega) (by unfold inW; omega)|exact wdl_d (by unfold okU; omega) (by unfold inM; omega) (by unfold inW; omega)
               refine s1 (ev_geq _ _ _) rfl rfl rfl ?_
               refine s4 rfl (fun g49=>?_) fun g49=>?_
               ·refine s8 ?_
                omega
               refine s1 (ev_geq _ _ _) rfl rfl rfl ?_
               refine s4 rfl (fun g50=>?_) fun g50=>?_
               ·refine s8 ?_
                omega
               refine s1 (ev_geq _ _ _) rfl rfl rfl ?_
               refine s4 rfl (fun g51=>?_) fun g51=>?_
               ·refine s8 ?_
                omega
               refine s7 [.int .i64 _] rfl ?_
               refine congrArg (fun z=>[U.int .i64 z]) ?_; symm; first|exact wdl_a (by unfold okU; omega)|exact wdl_b (by unfold okU; omega) (by unfold inM; omega)|exact wdl_c (by unfold okU; omega) (by unfold inM; omega) (by unfold inW; omega)|exact wdl_d (by unfold okU; omega) (by unfold inM; omega) (by unfold inW; omega)
              refine s1 (ev_geq _ _ _) rfl rfl rfl ?_
              refine s4 rfl (fun g47=>?_) fun g47=>?_
              ·refine s8 ?_
               omega
              refine s1 (ev_geq _ _ _) rfl rfl rfl ?_
              refine s4 rfl (fun g48=>?_) fun g48=>?_
              ·refine s8 ?_
               omega
              refine s1 (ev_geq _ _ _) rfl rfl rfl ?_
              refine s4 rfl (fun g49=>?_) fun g49=>?_
              ·refine s8 ?_
               omega
              refine s1 (ev_geq _ _ _) rfl rfl rfl ?_
              refine s4 rfl (fun g50=>?_) fun g50=>?_
              ·refine s8 ?_
               omega
              refine s7 [.int .i64 _] rfl ?_
              refine congrArg (fun z=>[U.int .i64 z]) ?_; symm; first|exact wdl_a (by unfold okU; omega)|exact wdl_b (by unfold okU; omega) (by unfold inM; omega)|exact wdl_c (by unfold okU; omega) (by unfold inM; omega) (by unfold inW; omega)|exact wdl_d (by unfold okU; omega) (by unfold inM; omega) (by unfold inW; omega)
             refine s1 (ev_geq _ _ _) rfl rfl rfl ?_
             refine s4 rfl (fun g45=>?_) fun g45=>?_
             ·refine s8 ?_
              omega
             refine s1 (ev_geq _ _ _) rfl rfl rfl ?_
             refine s4 rfl (fun g46=>?_) fun g46=>?_
             ·refine s8 ?_
              omega
             refine s1 (ev_geq _ _ _) rfl rfl rfl ?_
             refine s4 rfl (fun g47=>?_) fun g47=>?_
             ·refine s8 ?_
              omega
             refine s1 (ev_geq _ _ _) rfl rfl rfl ?_
             refine s4 rfl (fun g48=>?_) fun g48=>?_
             ·refine s8 ?_
              omega
             refine s1 (ev_geq _ _ _) rfl rfl rfl ?_
             refine s4 rfl (fun g49=>?_) fun g49=>?_
             ·refine s8 ?_
              omega
             refine s7 [.int .i64 _] rfl ?_
             refine congrArg (fun z=>[U.int .i64 z]) ?_; symm; first|exact wdl_a (by unfold okU; omega)|exact wdl_b (by unfold okU; omega) (by unfold inM; omega)|exact wdl_c (by unfold okU; omega) (by unfold inM; omega) (by unfold inW; omega)|exact wdl_d (by unfold okU; omega) (by unfold inM; omega) (by unfold inW; omega)
            refine s1 (ev_geq _ _ _) rfl rfl rfl ?_
            refine s5 rfl (fun g29=>?_) fun g29=>?_
            ·refine s8 ?_
             omega
            refine s1 (ev_leq _ _ _) rfl rfl rfl ?_
            refine s4 rfl (fun g30=>?_) fun g30=>?_
            ·refine s8 ?_
             omega
            refine s1 (ev_geq _ _ _) rfl rfl rfl ?_
            refine s5 rfl (fun g31=>?_) fun g31=>?_
            ·refine s8 ?_
             omega
            refine s1 (ev_leq _ _ _) rfl rfl rfl ?_
            refine s4 rfl (fun g32=>?_) fun g32=>?_
            ·refine s8 ?_
             omega
            refine s1 (ev_geq _ _ _) rfl rfl rfl ?_
            refine s5 rfl (fun g33=>?_) fun g33=>?_
            ·refine s8 ?_
             omega
            refine s1 (ev_leq _ _ _) rfl rfl rfl ?_
            refine s4 rfl (fun g34=>?_) fun g34=>?_
            ·refine s8 ?_
             omega
            refine s1 (ev_geq _ _ _) rfl rfl rfl ?_
            refine s5 rfl (fun g35=>?_) fun g35=>?_
            ·refine s8 ?_
             omega
            refine s1 (ev_leq _ _ _) rfl rfl rfl ?_
            refine s4 rfl (fun g36=>?_) fun g36=>?_
            ·refine s8 ?_
             omega
            refine s1 (ev_geq _ _ _) rfl rfl rfl ?_
            refine s5 rfl (fun g37=>?_) fun g37=>?_
            ·refine s8 ?_
             omega
            refine s1 (ev_leq _ _ _) rfl rfl rfl ?_
            refine s4 rfl (fun g38=>?_) fun g38=>?_
            ·refine s8 ?_
             omega
            refine s1 (ev_geq _ _ _) rfl rfl rfl ?_
            refine s5 rfl (fun g39=>?_) fun g39=>?_
            ·refine s8 ?_
             omega
            refine s1 (ev_leq _ _ _) rfl rfl rfl ?_
            refine s4 rfl (fun g40=>?_) fun g40=>?_
            ·refine s8 ?_
             omega
            refine s1 (ev_geq _ _ _) rfl rfl rfl ?_
            refine s4 rfl (fun g41=>?_) fun g41=>?_
            ·refine s8 ?_
             omega
            refine s1 (ev_geq _ _ _) rfl rfl rfl ?_
            refine s4 rfl (fun g42=>?_) fun g42=>?_
            ·refine s8 ?_
             omega
            refine s1 (ev_geq _ _ _) rfl rfl rfl ?_
            refine s4 rfl (fun g43=>?_) fun g43=>?_
            ·refine s8 ?_
             omega
            refine s1 (ev_geq _ _ _) rfl rfl rfl ?_
            refine s4 rfl (fun g44=>?_) fun g44=>?_
            ·refine s8 ?_
             omega
            refine s1 (ev_geq _ _ _) rfl rfl rfl ?_
            refine s4 rfl (fun g45=>?_) fun g45=>?_
            ·refine s8 ?_
             omega
            refine s1 (ev_geq _ _ _) rfl rfl rfl ?_
            refine s4 rfl (fun g46=>?_) fun g46=>?_
            ·refine s8 ?_
             omega
            refine s1 (ev_geq _ _ _) rfl rfl rfl ?_
            refine s4 rfl (fun g47=>?_) fun g47=>?_
            ·refine s8 ?_
             omega
            refine s7 [.int .i64 _] rfl ?_
            refine congrArg (fun z=>[U.int .i64 z]) ?_; symm; first|exact wdl_a (by unfold okU; omega)|exact wdl_b (by unfold okU; omega) (by unfold inM; omega)|exact wdl_c (by unfold okU; omega) (by unfold inM; omega) (by unfold inW; omega)|exact wdl_d (by unfold okU; omega) (by unfold inM; omega) (by unfold inW; omega)
           refine s1 (ev_geq _ _ _) rfl rfl rfl ?_
           refine s4 rfl (fun g27=>?_) fun g27=>?_
           ·refine s8 ?_
            omega
           refine s1 (ev_geq _ _ _) rfl rfl rfl ?_
           refine s5 rfl (fun g28=>?_) fun g28=>?_
           ·refine s8 ?_
            omega
           refine s1 (ev_leq _ _ _) rfl rfl rfl ?_
           refine s4 rfl (fun g29=>?_) fun g29=>?_
           ·refine s8 ?_
            omega
           refine s1 (ev_geq _ _ _) rfl rfl rfl ?_
           refine s4 rfl (fun g30=>?_) fun g30=>?_
           ·refine s1 (ev_leq _ _ _) rfl rfl rfl ?_
            refine s4 rfl (fun g31=>?_) fun g31=>?_
            ·refine s7 [.int .i64 _] rfl ?_
             refine congrArg (fun z=>[U.int .i64 z]) ?_; symm; first|exact wdl_a (by unfold okU; omega)|exact wdl_b (by unfold okU; omega) (by unfold inM; omega)|exact wdl_c (by unfold okU; omega) (by unfold inM; omega) (by unfold inW; omega)|exact wdl_d (by unfold okU; omega) (by unfold inM; omega) (by unfold inW; omega)
            refine s1 (ev_geq _ _ _) rfl rfl rfl ?_
            refine s4 rfl (fun g32=>?_) fun g32=>?_
            ·refine s1 (ev_leq _ _ _) rfl rfl rfl ?_
             refine s4 rfl (fun g33=>?_) fun g33=>?_
             ·refine s7 [.int .i64 _] rfl ?_
              refine congrArg (fun z=>[U.int .i64 z]) ?_; symm; first|exact wdl_a (by unfold okU; omega)|exact wdl_b (by unfold okU; omega) (by unfold inM; omega)|exact wdl_c (by unfold okU; omega) (by unfold inM; omega) (by unfold inW; omega)|exact wdl_d (by unfold okU; omega) (by unfold inM; omega) (by unfold inW; omega)
             refine s1 (ev_geq _ _ _) rfl rfl rfl ?_
             refine s4 rfl (fun g34=>?_) fun g34=>?_
             ·refine s1 (ev_leq _ _ _) rfl rfl rfl ?_
              refine s4 rfl (fun g35=>?_) fun g35=>?_
              ·refine s7 [.int .i64 _] rfl ?_
               refine congrArg (fun z=>[U.int .i64 z]) ?_; symm; first|exact wdl_a (by unfold okU; omega)|exact wdl_b (by unfold okU; omega) (by unfold inM; omega)|exact wdl_c (by unfold okU; omega) (by unfold inM; omega) (by unfold inW; omega)|exact wdl_d (by unfold okU; omega) (by unfold inM; omega) (by unfold inW; omega)
              refine s1 (ev_geq _ _ _) rfl rfl rfl ?_
              refine s4 rfl (fun g36=>?_) fun g36=>?_
              ·refine s1 (ev_leq _ _ _) rfl rfl rfl ?_
               refine s4 rfl (fun g37=>?_) fun g37=>?_
               ·refine s7 [.int .i64 _] rfl ?_
                refine congrArg (fun z=>[U.int .i64 z]) ?_; symm; first|exact wdl_a (by unfold okU; omega)|exact wdl_b (by unfold okU; omega) (by unfold inM; omega)|exact wdl_c (by unfold okU; omega) (by unfold inM; omega) (by unfold inW; omega)|exact wdl_d (by unfold okU; omega) (by unfold inM; omega) (by unfold inW; omega)
               refine s1 (ev_geq _ _ _) rfl rfl rfl ?_
               refine s4 rfl (fun g38=>?_) fun g38=>?_
               ·refine s1 (ev_leq _ _ _) rfl rfl rfl ?_
                refine s4 rfl (fun g39=>?_) fun g39=>?_
                ·refine s7 [.int .i64 _] rfl ?_
                 refine congrArg (fun z=>[U.int .i64 z]) ?_; symm; first|exact wdl_a (by unfold okU; omega)|exact wdl_b (by unfold okU; omega) (by unfold inM; omega)|exact wdl_c (by unfold okU; omega) (by unfold inM; omega) (by unfold inW; omega)|exact wdl_d (by unfold okU; omega) (by unfold inM; omega) (by unfold inW; omega)
                refine s1 (ev_geq _ _ _) rfl rfl rfl ?_
                refine s4 rfl (fun g40=>?_) fun g40=>?_
                ·refine s8 ?_
                 omega
                refine s1 (ev_geq _ _ _) rfl rfl rfl ?_
                refine s4 rfl (fun g41=>?_) fun g41=>?_
                ·refine s8 ?_
                 omega
                refine s1 (ev_geq _ _ _) rfl rfl rfl ?_
                refine s4 rfl (fun g42=>?_) fun g42=>?_
                ·refine s8 ?_
                 omega
                refine s1 (ev_geq _ _ _) rfl rfl rfl ?_
                refine s4 rfl (fun g43=>?_) fun g43=>?_
                ·refine s8 ?_
                 omega
                refine s1 (ev_geq _ _ _) rfl rfl rfl ?_
                refine s4 rfl (fun g44=>?_) fun g44=>?_
                ·refine s8 ?_
                 omega
                refine s1 (ev_geq _ _ _) rfl rfl rfl ?_
                refine s4 rfl (fun g45=>?_) fun g45=>?_
                ·refine s8 ?_
                 omega
                refine s1 (ev_geq _ _ _) rfl rfl rfl ?_
                refine s4 rfl (fun g46=>?_) fun g46=>?_
                ·refine s8 ?_
                 omega
                refine s7 [.int .i64 _] rfl ?_
                refine congrArg (fun z=>[U.int .i64 z]) ?_; symm; first|exact wdl_a (by unfold okU; omega)|exact wdl_b (by unfold okU; omega) (by unfold inM; omega)|exact wdl_c (by unfold okU; omega) (by unfold inM; omega) (by unfold inW; omega)|exact wdl_d (by unfold okU; omega) (by unfold inM; omega) (by unfold inW; omega)
               refine s1 (ev_geq _ _ _) rfl rfl rfl ?_
               refine s4 rfl (fun g39=>?_) fun g39=>?_
               ·refine s8 ?_
                omega
               refine s1 (ev_geq _ _ _) rfl rfl rfl ?_
               refine s4 rfl (fun g40=>?_) fun g40=>?_
               ·refine s8 ?_
                omega
               refine s1 (ev_geq _ _ _) rfl rfl rfl ?_
               refine s4 rfl (fun g41=>?_) fun g41=>?_
               ·refine s8 ?_
                omega
               refine s1 (ev_geq _ _ _) rfl rfl rfl ?_
               refine s4 rfl (fun g42=>?_) fun g42=>?_
               ·refine s8 ?_
                omega
               refine s1 (ev_geq _ _ _) rfl rfl rfl ?_
               refine s4 rfl (fun g43=>?_) fun g43=>?_
               ·refine s8 ?_
                omega
               refine s1 (ev_geq _ _ _) rfl rfl rfl ?_
               refine s4 rfl (fun g44=>?_) fun g44=>?_
               ·refine s8 ?_
                omega
               refine s1 (ev_geq _ _ _) rfl rfl rfl ?_
               refine s4 rfl (fun g45=>?_) fun g45=>?_
               ·refine s8 ?_
                omega
               refine s7 [.int .i64 _] rfl ?_
               refine congrArg (fun z=>[U.int .i64 z]) ?_; symm; first|exact wdl_a (by unfold okU; omega)|exact wdl_b (by unfold okU; omega) (by unfold inM; omega)|exact wdl_c (by unfold okU; omega) (by unfold inM; omega) (by unfold inW; omega)|exact wdl_d (by unfold okU; omega) (by unfold inM; omega) (by unfold inW; omega)
              refine s1 (ev_geq _ _ _) rfl rfl rfl ?_
              refine s4 rfl (fun g37=>?_) fun g37=>?_
              ·refine s8 ?_
               omega
              refine s1 (ev_geq _ _ _) rfl rfl rfl ?_
              refine s4 rfl (fun g38=>?_) fun g38=>?_
              ·refine s8 ?_
               omega
              refine s1 (ev_geq _ _ _) rfl rfl rfl ?_
              refine s4 rfl (fun g39=>?_) fun g39=>?_
              ·refine s8 ?_
               omega
              refine s1 (ev_geq _ _ _) rfl rfl rfl ?_
              refine s4 rfl (fun g40=>?_) fun g40=>?_
              ·refine s8 ?_
               omega
              refine s1 (ev_geq _ _ _) rfl rfl rfl ?_
              refine s4 rfl (fun g41=>?_) fun g41=>?_
              ·refine s8 ?_
               omega
              refine s1 (ev_geq _ _ _) rfl rfl rfl ?_
              refine s4 rfl (fun g42=>?_) fun g42=>?_
              ·refine s8 ?_
               omega
              refine s1 (ev_geq _ _ _) rfl rfl rfl ?_
              refine s4 rfl (fun g43=>?_) fun g43=>?_
              ·refine s8 ?_
               omega
              refine s1 (ev_geq _ _ _) rfl rfl rfl ?_
              refine s4 rfl (fun g44=>?_) fun g44=>?_
              ·refine s8 ?_
               omega
              refine s7 [.int .i64 _] rfl ?_
              refine congrArg (fun z=>[U.int .i64 z]) ?_; symm; first|exact wdl_a (by unfold okU; omega)|exact wdl_b (by unfold okU; omega) (by unfold inM; omega)|exact wdl_c (by unfold okU; omega) (by unfold inM; omega) (by unfold inW; omega)|exact wdl_d (by unfold okU; omega) (by unfold inM; omega) (by unfold inW; omega)
             refine s1 (ev_geq _ _ _) rfl rfl rfl ?_
             refine s4 rfl (fun g35=>?_) fun g35=>?_
             ·refine s8 ?_
              omega
             refine s1 (ev_geq _ _ _) rfl rfl rfl ?_
             refine s4 rfl (fun g36=>?_) fun g36=>?_
             ·refine s8 ?_
              omega
             refine s1 (ev_geq _ _ _) rfl rfl rfl ?_
             refine s4 rfl (fun g37=>?_) fun g37=>?_
             ·refine s8 ?_
              omega
             refine s1 (ev_geq _ _ _) rfl rfl rfl ?_
             refine s4 rfl (fun g38=>?_) fun g38=>?_
             ·refine s8 ?_
              omega
             refine s1 (ev_geq _ _ _) rfl rfl rfl ?_
             refine s4 rfl (fun g39=>?_) fun g39=>?_
             ·refine s8 ?_
              omega
             refine s1 (ev_geq _ _ _) rfl rfl rfl ?_
             refine s4 rfl (fun g40=>?_) fun g40=>?_
             ·refine s8 ?_
              omega
             refine s1 (ev_geq _ _ _) rfl rfl rfl ?_
             refine s4 rfl (fun g41=>?_) fun g41=>?_
             ·refine s8 ?_
              omega
             refine s1 (ev_geq _ _ _) rfl rfl rfl ?_
             refine s4 rfl (fun g42=>?_) fun g42=>?_
             ·refine s8 ?_
              omega
             refine s1 (ev_geq _ _ _) rfl rfl rfl ?_
             refine s4 rfl (fun g43=>?_) fun g43=>?_
             ·refine s8 ?_
              omega
             refine s7 [.int .i64 _] rfl ?_
             refine congrArg (fun z=>[U.int .i64 z]) ?_; symm; first|exact wdl_a (by unfold okU; omega)|exact wdl_b (by unfold okU; omega) (by unfold inM; omega)|exact wdl_c (by unfold okU; omega) (by unfold inM; omega) (by unfold inW; omega)|exact wdl_d (by unfold okU; omega) (by unfold inM; omega) (by unfold inW; omega)
            refine s1 (ev_geq _ _ _) rfl rfl rfl ?_
            refine s4 rfl (fun g33=>?_) fun g33=>?_
            ·refine s8 ?_
             omega
            refine s1 (ev_geq _ _ _) rfl rfl rfl ?_
            refine s4 rfl (fun g34=>?_) fun g34=>?_
            ·refine s8 ?_
             omega
            refine s1 (ev_geq _ _ _) rfl rfl rfl ?_
            refine s4 rfl (fun g35=>?_) fun g35=>?_
            ·refine s8 ?_
             omega
            refine s1 (ev_geq _ _ _) rfl rfl rfl ?_
            refine s4 rfl (fun g36=>?_) fun g36=>?_
            ·refine s8 ?_
             omega
            refine s1 (ev_geq _ _ _) rfl rfl rfl ?_
            refine s4 rfl (fun g37=>?_) fun g37=>?_
            ·refine s8 ?_
             omega
            refine s1 (ev_geq _ _ _) rfl rfl rfl ?_
            refine s4 rfl (fun g38=>?_) fun g38=>?_
            ·refine s8 ?_
             omega
            refine s1 (ev_geq _ _ _) rfl rfl rfl ?_
            refine s4 rfl (fun g39=>?_) fun g39=>?_
            ·refine s8 ?_
             omega
            refine s1 (ev_geq _ _ _) rfl rfl rfl ?_
            refine s4 rfl (fun g40=>?_) fun g40=>?_
            ·refine s8 ?_
             omega
            refine s1 (ev_geq _ _ _) rfl rfl rfl ?_
            refine s4 rfl (fun g41=>?_) fun g41=>?_
            ·refine s8 ?_
             omega
            refine s1 (ev_geq _ _ _) rfl rfl rfl ?_
            refine s4 rfl (fun g42=>?_) fun g42=>?_
            ·refine s8 ?_
             omega
            refine s7 [.int .i64 _] rfl ?_
            refine congrArg (fun z=>[U.int .i64 z]) ?_; symm; first|exact wdl_a (by unfold okU; omega)|exact wdl_b (by unfold okU; omega) (by unfold inM; omega)|exact wdl_c (by unfold okU; omega) (by unfold inM; omega) (by unfold inW; omega)|exact wdl_d (by unfold okU; omega) (by unfold inM; omega) (by unfold inW; omega)
           refine s1 (ev_geq _ _ _) rfl rfl rfl ?_
           refine s4 rfl (fun g31=>?_) fun g31=>?_
           ·refine s8 ?_
            omega
           refine s1 (ev_geq _ _ _) rfl rfl rfl ?_
           refine s4 rfl (fun g32=>?_) fun g32=>?_
           ·refine s8 ?_
            omega
           refine s1 (ev_geq _ _ _) rfl rfl rfl ?_
           refine s4 rfl (fun g33=>?_) fun g33=>?_
           ·refine s8 ?_
            omega
           refine s1 (ev_geq _ _ _) rfl rfl rfl ?_
           refine s4 rfl (fun g34=>?_) fun g34=>?_
           ·refine s8 ?_
            omega
           refine s1 (ev_geq _ _ _) rfl rfl rfl ?_
           refine s4 rfl (fun g35=>?_) fun g35=>?_
           ·refine s8 ?_
            omega
           refine s1 (ev_geq _ _ _) rfl rfl rfl ?_
           refine s4 rfl (fun g36=>?_) fun g36=>?_
           ·refine s8 ?_
            omega
           refine s1 (ev_geq _ _ _) rfl rfl rfl ?_
           refine s4 rfl (fun g37=>?_) fun g37=>?_
           ·refine s8 ?_
            omega
           refine s1 (ev_geq _ _ _) rfl rfl rfl ?_
           refine s4 rfl (fun g38=>?_) fun g38=>?_
           ·refine s8 ?_
            omega
           refine s1 (ev_geq _ _ _) rfl rfl rfl ?_
           refine s4 rfl (fun g39=>?_) fun g39=>?_
           ·refine s8 ?_
            omega
           refine s1 (ev_geq _ _ _) rfl rfl rfl ?_
           refine s4 rfl (fun g40=>?_) fun g40=>?_
           ·refine s8 ?_
            omega
           refine s1 (ev_geq _ _ _) rfl rfl rfl ?_
           refine s4 rfl (fun g41=>?_) fun g41=>?_
           ·refine s8 ?_
            omega
           refine s7 [.int .i64 _] rfl ?_
           refine congrArg (fun z=>[U.int .i64 z]) ?_; symm; first|exact wdl_a (by unfold okU; omega)|exact wdl_b (by unfold okU; omega) (by unfold inM; omega)|exact wdl_c (by unfold okU; omega) (by unfold inM; omega) (by unfold inW; omega)|exact wdl_d (by unfold okU; omega) (by unfold inM; omega) (by unfold inW; omega)
          refine s1 (ev_geq _ _ _) rfl rfl rfl ?_
          refine s4 rfl (fun g25=>?_) fun g25=>?_
          ·refine s8 ?_
           omega
          refine s1 (ev_geq _ _ _) rfl rfl rfl ?_
          refine s4 rfl (fun g26=>?_) fun g26=>?_
          ·refine s8 ?_
           omega
          refine s1 (ev_geq _ _ _) rfl rfl rfl ?_
          refine s5 rfl (fun g27=>?_) fun g27=>?_
          ·refine s8 ?_
           omega
          refine s1 (ev_leq _ _ _) rfl rfl rfl ?_
          refine s4 rfl (fun g28=>?_) fun g28=>?_
          ·refine s8 ?_
           omega
          refine s1 (ev_geq _ _ _) rfl rfl rfl ?_
          refine s4 rfl (fun g29=>?_) fun g29=>?_
          ·refine s8 ?_
           omega
          refine s1 (ev_geq _ _ _) rfl rfl rfl ?_
          refine s4 rfl (fun g30=>?_) fun g30=>?_
          ·refine s8 ?_
           omega
          refine s1 (ev_geq _ _ _) rfl rfl rfl ?_
          refine s4 rfl (fun g31=>?_) fun g31=>?_
          ·refine s8 ?_
           omega
          refine s1 (ev_geq _ _ _) rfl rfl rfl ?_
          refine s4 rfl (fun g32=>?_) fun g32=>?_
          ·refine s8 ?_
           omega
          refine s1 (ev_geq _ _ _) rfl rfl rfl ?_
          refine s4 rfl (fun g33=>?_) fun g33=>?_
          ·refine s8 ?_
           omega
          refine s1 (ev_geq _ _ _) rfl rfl rfl ?_
          refine s4 rfl (fun g34=>?_) fun g34=>?_
          ·refine s8 ?_
           omega
          refine s1 (ev_geq _ _ _) rfl rfl rfl ?_
          refine s4 rfl (fun g35=>?_) fun g35=>?_
          ·refine s8 ?_
           omega
          refine s1 (ev_geq _ _ _) rfl rfl rfl ?_
          refine s4 rfl (fun g36=>?_) fun g36=>?_
          ·refine s8 ?_
           omega
          refine s1 (ev_geq _ _ _) rfl rfl rfl ?_
          refine s4 rfl (fun g37=>?_) fun g37=>?_
          ·refine s8 ?_
           omega
          refine s1 (ev_geq _ _ _) rfl rfl rfl ?_
          refine s4 rfl (fun g38=>?_) fun g38=>?_
          ·refine s8 ?_
           omega
          refine s1 (ev_geq _ _ _) rfl rfl rfl ?_
          refine s4 rfl (fun g39=>?_) fun g39=>?_
          ·refine s8 ?_
           omega
          refine s1 (ev_geq _ _ _) rfl rfl rfl ?_
          refine s4 rfl (fun g40=>?_) fun g40=>?_
          ·refine s8 ?_
           omega
          refine s7 [.int .i64 _] rfl ?_
          refine congrArg (fun z=>[U.int .i64 z]) ?_; symm; first|exact wdl_a (by unfold okU; omega)|exact wdl_b (by unfold okU; omega) (by unfold inM; omega)|exact wdl_c (by unfold okU; omega) (by unfold inM; omega) (by unfold inW; omega)|exact wdl_d (by unfold okU; omega) (by unfold inM; omega) (by unfold inW; omega)
         refine s1 (ev_geq _ _ _) rfl rfl rfl ?_
         refine s4 rfl (fun g23=>?_) fun g23=>?_
         ·refine s8 ?_
          omega
         refine s1 (ev_geq _ _ _) rfl rfl rfl ?_
         refine s4 rfl (fun g24=>?_) fun g24=>?_
         ·refine s8 ?_
          omega
         refine s1 (ev_geq _ _ _) rfl rfl rfl ?_
         refine s4 rfl (fun g25=>?_) fun g25=>?_
         ·refine s8 ?_
          omega
         refine s1 (ev_geq _ _ _) rfl rfl rfl ?_
         refine s5 rfl (fun g26=>?_) fun g26=>?_
         ·refine s8 ?_
          omega
         refine s1 (ev_leq _ _ _) rfl rfl rfl ?_
         refine s4 rfl (fun g27=>?_) fun g27=>?_
         ·refine s8 ?_
          omega
         refine s1 (ev_geq _ _ _) rfl rfl rfl ?_
         refine s4 rfl (fun g28=>?_) fun g28=>?_
         ·refine s8 ?_
          omega
         refine s1 (ev_geq _ _ _) rfl rfl rfl ?_
         refine s4 rfl (fun g29=>?_) fun g29=>?_
         ·refine s8 ?_
          omega
         refine s1 (ev_geq _ _ _) rfl rfl rfl ?_
         refine s4 rfl (fun g30=>?_) fun g30=>?_
         ·refine s8 ?_
          omega
         refine s1 (ev_geq _ _ _) rfl rfl rfl ?_
         refine s4 rfl (fun g31=>?_) fun g31=>?_
         ·refine s8 ?_
          omega
         refine s1 (ev_geq _ _ _) rfl rfl rfl ?_
         refine s4 rfl (fun g32=>?_) fun g32=>?_
         ·refine s8 ?_
          omega
         refine s1 (ev_geq _ _ _) rfl rfl rfl ?_
         refine s4 rfl (fun g33=>?_) fun g33=>?_
         ·refine s8 ?_
          omega
         refine s1 (ev_geq _ _ _) rfl rfl rfl ?_
         refine s4 rfl (fun g34=>?_) fun g34=>?_
         ·refine s8 ?_
          omega
         refine s1 (ev_geq _ _ _) rfl rfl rfl ?_
         refine s4 rfl (fun g35=>?_) fun g35=>?_
         ·refine s8 ?_
          omega
         refine s1 (ev_geq _ _ _) rfl rfl rfl ?_
         refine s4 rfl (fun g36=>?_) fun g36=>?_
         ·refine s8 ?_
          omega
         refine s1 (ev_geq _ _ _) rfl rfl rfl ?_
         refine s4 rfl (fun g37=>?_) fun g37=>?_
         ·refine s8 ?_
          omega
         refine s1 (ev_geq _ _ _) rfl rfl rfl ?_
         refine s4 rfl (fun g38=>?_) fun g38=>?_
         ·refine s8 ?_
          omega
         refine s1 (ev_geq _ _ _) rfl rfl rfl ?_
         refine s4 rfl (fun g39=>?_) fun g39=>?_
         ·refine s8 ?_
          omega
         refine s7 [.int .i64 _] rfl ?_
         refine congrArg (fun z=>[U.int .i64 z]) ?_; symm; first|exact wdl_a (by unfold okU; omega)|exact wdl_b (by unfold okU; omega) (by unfold inM; omega)|exact wdl_c (by unfold okU; omega) (by unfold inM; omega) (by unfold inW; omega)|exact wdl_d (by unfold okU; omega) (by unfold inM; omega) (by unfold inW; omega)
        refine s1 (ev_geq _ _ _) rfl rfl rfl ?_
        refine s4 rfl (fun g21=>?_) fun g21=>?_
        ·refine s8 ?_
         omega
        refine s1 (ev_geq _ _ _) rfl rfl rfl ?_
        refine s4 rfl (fun g22=>?_) fun g22=>?_
        ·refine s8 ?_
         omega
        refine s1 (ev_geq _ _ _) rfl rfl rfl ?_
        refine s4 rfl (fun g23=>?_) fun g23=>?_
        ·refine s8 ?_
         omega
        refine s1 (ev_geq _ _ _) rfl rfl rfl ?_
        refine s4 rfl (fun g24=>?_) fun g24=>?_
        ·refine s8 ?_
         omega
        refine s1 (ev_geq _ _ _) rfl rfl rfl ?_
        refine s5 rfl (fun g25=>?_) fun g25=>?_
        ·refine s8 ?_
         omega
        refine s1 (ev_leq _ _ _) rfl rfl rfl ?_
        refine s4 rfl (fun g26=>?_) fun g26=>?_
        ·refine s8 ?_
         omega
        refine s1 (ev_geq _ _ _) rfl rfl rfl ?_
        refine s4 rfl (fun g27=>?_) fun g27=>?_
        ·refine s8 ?_
         omega
        refine s1 (ev_geq _ _ _) rfl rfl rfl ?_
        refine s4 rfl (fun g28=>?_) fun g28=>?_
        ·refine s8 ?_
         omega
        refine s1 (ev_geq _ _ _) rfl rfl rfl ?_
        refine s4 rfl (fun g29=>?_) fun g29=>?_
        ·refine s8 ?_
         omega
        refine s1 (ev_geq _ _ _) rfl rfl rfl ?_
        refine s4 rfl (fun g30=>?_) fun g30=>?_
        ·refine s8 ?_
         omega
        refine s1 (ev_geq _ _ _) rfl rfl rfl ?_
        refine s4 rfl (fun g31=>?_) fun g31=>?_
        ·refine s8 ?_
         omega
        refine s1 (ev_geq _ _ _) rfl rfl rfl ?_
        refine s4 rfl (fun g32=>?_) fun g32=>?_
        ·refine s8 ?_
         omega
        refine s1 (ev_geq _ _ _) rfl rfl rfl ?_
        refine s4 rfl (fun g33=>?_) fun g33=>?_
        ·refine s8 ?_
         omega
        refine s1 (ev_geq _ _ _) rfl rfl rfl ?_
        refine s4 rfl (fun g34=>?_) fun g34=>?_
        ·refine s8 ?_
         omega
        refine s1 (ev_geq _ _ _) rfl rfl rfl ?_
        refine s4 rfl (fun g35=>?_) fun g35=>?_
        ·refine s8 ?_
         omega
        refine s1 (ev_geq _ _ _) rfl rfl rfl ?_
        refine s4 rfl (fun g36=>?_) fun g36=>?_
        ·refine s8 ?_
         omega
        refine s1 (ev_geq _ _ _) rfl rfl rfl ?_
        refine s4 rfl (fun g37=>?_) fun g37=>?_
        ·refine s8 ?_
         omega
        refine s1 (ev_geq _ _ _) rfl rfl rfl ?_
        refine s4 rfl (fun g38=>?_) fun g38=>?_
        ·refine s8 ?_
         omega
        refine s7 [.int .i64 _] rfl ?_
        refine congrArg (fun z=>[U.int .i64 z]) ?_; symm; first|exact wdl_a (by unfold okU; omega)|exact wdl_b (by unfold okU; omega) (by unfold inM; omega)|exact wdl_c (by unfold okU; omega) (by unfold inM; omega) (by unfold inW; omega)|exact wdl_d (by unfold okU; omega) (by unfold inM; omega) (by unfold inW; omega)
       refine s1 (ev_geq _ _ _) rfl rfl rfl ?_
       refine s4 rfl (fun g19=>?_) fun g19=>?_
       ·refine s8 ?_
        omega
       refine s1 (ev_geq _ _ _) rfl rfl rfl ?_
       refine s4 rfl (fun g20=>?_) fun g20=>?_
       ·refine s8 ?_
        omega
       refine s1 (ev_geq _ _ _) rfl rfl rfl ?_
       refine s4 rfl (fun g21=>?_) fun g21=>?_
       ·refine s8 ?_
        omega
       refine s1 (ev_geq _ _ _) rfl rfl rfl ?_
       refine s4 rfl (fun g22=>?_) fun g22=>?_
       ·refine s8 ?_
        omega
       refine s1 (ev_geq _ _ _) rfl rfl rfl ?_
       refine s4 rfl (fun g23=>?_) fun g23=>?_
       ·refine s8 ?_
        omega
       refine s1 (ev_geq _ _ _) rfl rfl rfl ?_
       refine s4 rfl (fun g24=>?_) fun g24=>?_
       ·refine s1 (ev_leq _ _ _) rfl rfl rfl ?_
        refine s4 rfl (fun g25=>?_) fun g25=>?_
        ·refine s7 [.int .i64 _] rfl ?_
         refine congrArg (fun z=>[U.int .i64 z]) ?_; symm; first|exact wdl_a (by unfold okU; omega)|exact wdl_b (by unfold okU; omega) (by unfold inM; omega)|exact wdl_c (by unfold okU; omega) (by unfold inM; omega) (by unfold inW; omega)|exact wdl_d (by unfold okU; omega) (by unfold inM; omega) (by unfold inW; omega)
        refine s1 (ev_geq _ _ _) rfl rfl rfl ?_
        refine s4 rfl (fun g26=>?_) fun g26=>?_
        ·refine s8 ?_
         omega
        refine s1 (ev_geq _ _ _) rfl rfl rfl ?_
        refine s4 rfl (fun g27=>?_) fun g27=>?_
        ·refine s8 ?_
         omega
        refine s1 (ev_geq _ _ _) rfl rfl rfl ?_
        refine s4 rfl (fun g28=>?_) fun g28=>?_
        ·refine s8 ?_
         omega
        refine s1 (ev_geq _ _ _) rfl rfl rfl ?_
        refine s4 rfl (fun g29=>?_) fun g29=>?_
        ·refine s8 ?_
         omega
        refine s1 (ev_geq _ _ _) rfl rfl rfl ?_
        refine s4 rfl (fun g30=>?_) fun g30=>?_
        ·refine s8 ?_
         omega
        refine s1 (ev_geq _ _ _) rfl rfl rfl ?_
        refine s4 rfl (fun g31=>?_) fun g31=>?_
        ·refine s8 ?_
         omega
        refine s1 (ev_geq _ _ _) rfl rfl rfl ?_
        refine s4 rfl (fun g32=>?_) fun g32=>?_
        ·refine s8 ?_
         omega
        refine s1 (ev_geq _ _ _) rfl rfl rfl ?_
        refine s4 rfl (fun g33=>?_) fun g33=>?_
        ·refine s8 ?_
         omega
        refine s1 (ev_geq _ _ _) rfl rfl rfl ?_
        refine s4 rfl (fun g34=>?_) fun g34=>?_
        ·refine s8 ?_
         omega
        refine s1 (ev_geq _ _ _) rfl rfl rfl ?_
        refine s4 rfl (fun g35=>?_) fun g35=>?_
        ·refine s8 ?_
         omega
        refine s1 (ev_geq _ _ _) rfl rfl rfl ?_
        refine s4 rfl (fun g36=>?_) fun g36=>?_
        ·refine s8 ?_
         omega
        refine s1 (ev_geq _ _ _) rfl rfl rfl ?_
        refine s4 rfl (fun g37=>?_) fun g37=>?_
        ·refine s8 ?_
         omega
        refine s7 [.int .i64 _] rfl ?_
        refine congrArg (fun z=>[U.int .i64 z]) ?_; symm; first|exact wdl_a (by unfold okU; omega)|exact wdl_b (by unfold okU; omega) (by unfold inM; omega)|exact wdl_c (by unfold okU; omega) (by unfold inM; omega) (by unfold inW; omega)|exact wdl_d (by unfold okU; omega) (by unfold inM; omega) (by unfold inW; omega)
       refine s1 (ev_geq _ _ _) rfl rfl rfl ?_
       refine s4 rfl (fun g25=>?_) fun g25=>?_
       ·refine s8 ?_
        omega
       refine s1 (ev_geq _ _ _) rfl rfl rfl ?_
       refine s4 rfl (fun g26=>?_) fun g26=>?_
       ·refine s8 ?_
        omega
       refine s1 (ev_geq _ _ _) rfl rfl rfl ?_
       refine s4 rfl (fun g27=>?_) fun g27=>?_
       ·refine s8 ?_
        omega
       refine s1 (ev_geq _ _ _) rfl rfl rfl ?_
       refine s4 rfl (fun g28=>?_) fun g28=>?_
       ·refine s8 ?_
        omega
       refine s1 (ev_geq _ _ _) rfl rfl rfl ?_
       refine s4 rfl (fun g29=>?_) fun g29=>?_
       ·refine s8 ?_
        omega
       refine s1 (ev_geq _ _ _) rfl rfl rfl ?_
       refine s4 rfl (fun g30=>?_) fun g30=>?_
       ·refine s8 ?_
        omega
       refine s1 (ev_geq _ _ _) rfl rfl rfl ?_
       refine s4 rfl (fun g31=>?_) fun g31=>?_
       ·refine s8 ?_
        omega
       refine s1 (ev_geq _ _ _) rfl rfl rfl ?_
       refine s4 rfl (fun g32=>?_) fun g32=>?_
       ·refine s8 ?_
        omega
       refine s1 (ev_geq _ _ _) rfl rfl rfl ?_
       refine s4 rfl (fun g33=>?_) fun g33=>?_
       ·refine s8 ?_
        omega
       refine s1 (ev_geq _ _ _) rfl rfl rfl ?_
       refine s4 rfl (fun g34=>?_) fun g34=>?_
       ·refine s8 ?_
        omega
       refine s1 (ev_geq _ _ _) rfl rfl rfl ?_
       refine s4 rfl (fun g35=>?_) fun g35=>?_
       ·refine s8 ?_
        omega
       refine s1 (ev_geq _ _ _) rfl rfl rfl ?_
       refine s4 rfl (fun g36=>?_) fun g36=>?_
       ·refine s8 ?_
        omega
       refine s7 [.int .i64 _] rfl ?_
       refine congrArg (fun z=>[U.int .i64 z]) ?_; symm; first|exact wdl_a (by unfold okU; omega)|exact wdl_b (by unfold okU; omega) (by unfold inM; omega)|exact wdl_c (by unfold okU; omega) (by unfold inM; omega) (by unfold inW; omega)|exact wdl_d (by unfold okU; omega) (by unfold inM; omega) (by unfold inW; omega)
      refine s1 (ev_geq _ _ _) rfl rfl rfl ?_
      refine s4 rfl (fun g17=>?_) fun g17=>?_
      ·refine s8 ?_
       omega
      refine s1 (ev_geq _ _ _) rfl rfl rfl ?_
      refine s4 rfl (fun g18=>?_) fun g18=>?_
      ·refine s8 ?_
       omega
      refine s1 (ev_geq _ _ _) rfl rfl rfl ?_
      refine s4 rfl (fun g19=>?_) fun g19=>?_
      ·refine s8 ?_
       omega
      refine s1 (ev_geq _ _ _) rfl rfl rfl ?_
      refine s4 rfl (fun g20=>?_) fun g20=>?_
      ·refine s8 ?_
       omega
      refine s1 (ev_geq _ _ _) rfl rfl rfl ?_
      refine s4 rfl (fun g21=>?_) fun g21=>?_
      ·refine s8 ?_
       omega
      refine s1 (ev_geq _ _ _) rfl rfl rfl ?_
      refine s4 rfl (fun g22=>?_) fun g22=>?_
      ·refine s8 ?_
       omega
      refine s1 (ev_geq _ _ _) rfl rfl rfl ?_
      refine s4 rfl (fun g23=>?_) fun g23=>?_
      ·refine s8 ?_
       omega
      refine s1 (ev_geq _ _ _) rfl rfl rfl ?_
      refine s4 rfl (fun g24=>?_) fun g24=>?_
      ·refine s8 ?_
       omega
      refine s1 (ev_geq _ _ _) rfl rfl rfl ?_
      refine s4 rfl (fun g25=>?_) fun g25=>?_
      ·refine s8 ?_
       omega
      refine s1 (ev_geq _ _ _) rfl rfl rfl ?_
      refine s4 rfl (fun g26=>?_) fun g26=>?_
      ·refine s8 ?_
       omega
      refine s1 (ev_geq _ _ _) rfl rfl rfl ?_
      refine s4 rfl (fun g27=>?_) fun g27=>?_
      ·refine s8 ?_
       omega
      refine s1 (ev_geq _ _ _) rfl rfl rfl ?_
      refine s4 rfl (fun g28=>?_) fun g28=>?_
      ·refine s8 ?_
       omega
      refine s1 (ev_geq _ _ _) rfl rfl rfl ?_
      refine s4 rfl (fun g29=>?_) fun g29=>?_
      ·refine s8 ?_
       omega
      refine s1 (ev_geq _ _ _) rfl rfl rfl ?_
      refine s4 rfl (fun g30=>?_) fun g30=>?_
      ·refine s8 ?_
       omega
      refine s1 (ev_geq _ _ _) rfl rfl rfl ?_
      refine s4 rfl (fun g31=>?_) fun g31=>?_
      ·refine s8 ?_
       omega
      refine s1 (ev_geq _ _ _) rfl rfl rfl ?_
      refine s4 rfl (fun g32=>?_) fun g32=>?_
      ·refine s8 ?_
       omega
      refine s1 (ev_geq _ _ _) rfl rfl rfl ?_
      refine s4 rfl (fun g33=>?_) fun g33=>?_
      ·refine s8 ?_
       omega
      refine s1 (ev_geq _ _ _) rfl rfl rfl ?_
      refine s4 rfl (fun g34=>?_) fun g34=>?_
      ·refine s8 ?_
       omega
      refine s1 (ev_geq _ _ _) rfl rfl rfl ?_
      refine s4 rfl (fun g35=>?_) fun g35=>?_
      ·refine s8 ?_
       omega
      refine s7 [.int .i64 _] rfl ?_
      refine congrArg (fun z=>[U.int .i64 z]) ?_; symm; first|exact wdl_a (by unfold okU; omega)|exact wdl_b (by unfold okU; omega) (by unfold inM; omega)|exact wdl_c (by unfold okU; omega) (by unfold inM; omega) (by unfold inW; omega)|exact wdl_d (by unfold okU; omega) (by unfold inM; omega) (by unfold inW; omega)
     refine s1 (ev_geq _ _ _) rfl rfl rfl ?_
     refine s4 rfl (fun g15=>?_) fun g15=>?_
     ·refine s8 ?_
      omega
     refine s1 (ev_geq _ _ _) rfl rfl rfl ?_
     refine s4 rfl (fun g16=>?_) fun g16=>?_
     ·refine s8 ?_
      omega
     refine s1 (ev_geq _ _ _) rfl rfl rfl ?_
     refine s4 rfl (fun g17=>?_) fun g17=>?_
     ·refine s8 ?_
      omega
     refine s1 (ev_geq _ _ _) rfl rfl rfl ?_
     refine s4 rfl (fun g18=>?_) fun g18=>?_
     ·refine s8 ?_
      omega
     refine s1 (ev_geq _ _ _) rfl rfl rfl ?_
     refine s4 rfl (fun g19=>?_) fun g19=>?_
     ·refine s8 ?_
      omega
     refine s1 (ev_geq _ _ _) rfl rfl rfl ?_
     refine s4 rfl (fun g20=>?_) fun g20=>?_
     ·refine s8 ?_
      omega
     refine s1 (ev_geq _ _ _) rfl rfl rfl ?_
     refine s4 rfl (fun g21=>?_) fun g21=>?_
     ·refine s8 ?_
      omega
     refine s1 (ev_geq _ _ _) rfl rfl rfl ?_
     refine s4 rfl (fun g22=>?_) fun g22=>?_
     ·refine s8 ?_
      omega
     refine s1 (ev_geq _ _ _) rfl rfl rfl ?_
     refine s4 rfl (fun g23=>?_) fun g23=>?_
     ·refine s8 ?_
      omega
     refine s1 (ev_geq _ _ _) rfl rfl rfl ?_
     refine s4 rfl (fun g24=>?_) fun g24=>?_
     ·refine s8 ?_
      omega
     refine s1 (ev_geq _ _ _) rfl rfl rfl ?_
     refine s4 rfl (fun g25=>?_) fun g25=>?_
     ·refine s8 ?_
      omega
     refine s1 (ev_geq _ _ _) rfl rfl rfl ?_
     refine s4 rfl (fun g26=>?_) fun g26=>?_
     ·refine s8 ?_
      omega
     refine s1 (ev_geq _ _ _) rfl rfl rfl ?_
     refine s4 rfl (fun g27=>?_) fun g27=>?_
     ·refine s8 ?_
      omega
     refine s1 (ev_geq _ _ _) rfl rfl rfl ?_
     refine s4 rfl (fun g28=>?_) fun g28=>?_
     ·refine s8 ?_
      omega
     refine s1 (ev_geq _ _ _) rfl rfl rfl ?_
     refine s4 rfl (fun g29=>?_) fun g29=>?_
     ·refine s8 ?_
      omega
     refine s1 (ev_geq _ _ _) rfl rfl rfl ?_
     refine s4 rfl (fun g30=>?_) fun g30=>?_
     ·refine s8 ?_
      omega
     refine s1 (ev_geq _ _ _) rfl rfl rfl ?_
     refine s4 rfl (fun g31=>?_) fun g31=>?_
     ·refine s8 ?_
      omega
     refine s1 (ev_geq _ _ _) rfl rfl rfl ?_
     refine s4 rfl (fun g32=>?_) fun g32=>?_
     ·refine s8 ?_
      omega
     refine s1 (ev_geq _ _ _) rfl rfl rfl ?_
     refine s4 rfl (fun g33=>?_) fun g33=>?_
     ·refine s8 ?_
      omega
     refine s1 (ev_geq _ _ _) rfl rfl rfl ?_
     refine s4 rfl (fun g34=>?_) fun g34=>?_
     ·refine s8 ?_
      omega
     refine s7 [.int .i64 _] rfl ?_
     refine congrArg (fun z=>[U.int .i64 z]) ?_; symm; first|exact wdl_a (by unfold okU; omega)|exact wdl_b (by unfold okU; omega) (by unfold inM; omega)|exact wdl_c (by unfold okU; omega) (by unfold inM; omega) (by unfold inW; omega)|exact wdl_d (by unfold okU; omega) (by unfold inM; omega) (by unfold inW; omega)
    refine s1 (ev_geq _ _ _) rfl rfl rfl ?_
    refine s4 rfl (fun g13=>?_) fun g13=>?_
    ·refine s8 ?_
     omega
    refine s1 (ev_geq _ _ _) rfl rfl rfl ?_
    refine s4 rfl (fun g14=>?_) fun g14=>?_
    ·refine s8 ?_
     omega
    refine s1 (ev_geq _ _ _) rfl rfl rfl ?_
    refine s4 rfl (fun g15=>?_) fun g15=>?_
    ·refine s8 ?_
     omega
    refine s1 (ev_geq _ _ _) rfl rfl rfl ?_
    refine s4 rfl (fun g16=>?_) fun g16=>?_
    ·refine s8 ?_
     omega
    refine s1 (ev_geq _ _ _) rfl rfl rfl ?_
    refine s4 rfl (fun g17=>?_) fun g17=>?_
    ·refine s8 ?_
     omega
    refine s1 (ev_geq _ _ _) rfl rfl rfl ?_
    refine s4 rfl (fun g18=>?_) fun g18=>?_
    ·refine s8 ?_
     omega
    refine s1 (ev_geq _ _ _) rfl rfl rfl ?_
    refine s4 rfl (fun g19=>?_) fun g19=>?_
    ·refine s8 ?_
     omega
    refine s1 (ev_geq _ _ _) rfl rfl rfl ?_
    refine s4 rfl (fun g20=>?_) fun g20=>?_
    ·refine s8 ?_
     omega
    refine s1 (ev_geq _ _ _) rfl rfl rfl ?_
    refine s4 rfl (fun g21=>?_) fun g21=>?_
    ·refine s8 ?_
     omega
    refine s1 (ev_geq _ _ _) rfl rfl rfl ?_
    refine s4 rfl (fun g22=>?_) fun g22=>?_
    ·refine s8 ?_
     omega
    refine s1 (ev_geq _ _ _) rfl rfl rfl ?_
    refine s4 rfl (fun g23=>?_) fun g23=>?_
    ·refine s8 ?_
     omega
    refine s1 (ev_geq _ _ _) rfl rfl rfl ?_
    refine s4 rfl (fun g24=>?_) fun g24=>?_
    ·refine s8 ?_
     omega
    refine s1 (ev_geq _ _ _) rfl rfl rfl ?_
    refine s4 rfl (fun g25=>?_) fun g25=>?_
    ·refine s8 ?_
     omega
    refine s1 (ev_geq _ _ _) rfl rfl rfl ?_
    refine s4 rfl (fun g26=>?_) fun g26=>?_
    ·refine s8 ?_
     omega
    refine s1 (ev_geq _ _ _) rfl rfl rfl ?_
    refine s4 rfl (fun g27=>?_) fun g27=>?_
    ·refine s8 ?_
     omega
    refine s1 (ev_geq _ _ _) rfl rfl rfl ?_
    refine s4 rfl (fun g28=>?_) fun g28=>?_
    ·refine s8 ?_
     omega
    refine s1 (ev_geq _ _ _) rfl rfl rfl ?_
    refine s4 rfl (fun g29=>?_) fun g29=>?_
    ·refine s8 ?_
     omega
    refine s1 (ev_geq _ _ _) rfl rfl rfl ?_
    refine s4 rfl (fun g30=>?_) fun g30=>?_
    ·refine s8 ?_
     omega
    refine s1 (ev_geq _ _ _) rfl rfl rfl ?_
    refine s4 rfl (fun g31=>?_) fun g31=>?_
    ·refine s8 ?_
     omega
    refine s1 (ev_geq _ _ _) rfl rfl rfl ?_
    refine s4 rfl (fun g32=>?_) fun g32=>?_
    ·refine s8 ?_
     omega
    refine s1 (ev_geq _ _ _) rfl rfl rfl ?_
    refine s4 rfl (fun g33=>?_) fun g33=>?_
    ·refine s8 ?_
     omega
    refine s7 [.int .i64 _] rfl ?_
    refine congrArg (fun z=>[U.int .i64 z]) ?_; symm; first|exact wdl_a (by unfold okU; omega)|exact wdl_b (by unfold okU; omega) (by unfold inM; omega)|exact wdl_c (by unfold okU; omega) (by unfold inM; omega) (by unfold inW; omega)|exact wdl_d (by unfold okU; omega) (by unfold inM; omega) (by unfold inW; omega)
   refine s1 (ev_geq _ _ _) rfl rfl rfl ?_
   refine s4 rfl (fun g11=>?_) fun g11=>?_
   ·refine s8 ?_
    omega
   refine s1 (ev_geq _ _ _) rfl rfl rfl ?_
   refine s4 rfl (fun g12=>?_) fun g12=>?_
   ·refine s8 ?_
    omega
   refine s1 (ev_geq _ _ _) rfl rfl rfl ?_
   refine s4 rfl (fun g13=>?_) fun g13=>?_
   ·refine s8 ?_
    omega
   refine s1 (ev_geq _ _ _) rfl rfl rfl ?_
   refine s4 rfl (fun g14=>?_) fun g14=>?_
   ·refine s8 ?_
    omega
   refine s1 (ev_geq _ _ _) rfl rfl rfl ?_
   refine s4 rfl (fun g15=>?_) fun g15=>?_
   ·refine s8 ?_
    omega
   refine s1 (ev_geq _ _ _) rfl rfl rfl ?_
   refine s4 rfl (fun g16=>?_) fun g16=>?_
   ·refine s8 ?_
    omega
   refine s1 (ev_geq _ _ _) rfl rfl rfl ?_
   refine s4 rfl (fun g17=>?_) fun g17=>?_
   ·refine s8 ?_
    omega
   refine s1 (ev_geq _ _ _) rfl rfl rfl ?_
   refine s4 rfl (fun g18=>?_) fun g18=>?_
   ·refine s8 ?_
    omega
   refine s1 (ev_geq _ _ _) rfl rfl rfl ?_
   refine s4 rfl (fun g19=>?_) fun g19=>?_
   ·refine s8 ?_
    omega
   refine s1 (ev_geq _ _ _) rfl rfl rfl ?_
   refine s4 rfl (fun g20=>?_) fun g20=>?_
   ·refine s8 ?_
    omega
   refine s1 (ev_geq _ _ _) rfl rfl rfl ?_
   refine s4 rfl (fun g21=>?_) fun g21=>?_
   ·refine s8 ?_
    omega
   refine s1 (ev_geq _ _ _) rfl rfl rfl ?_
   refine s4 rfl (fun g22=>?_) fun g22=>?_
   ·refine s8 ?_
    omega
   refine s1 (ev_geq _ _ _) rfl rfl rfl ?_
   refine s4 rfl (fun g23=>?_) fun g23=>?_
   ·refine s8 ?_
    omega
   refine s1 (ev_geq _ _ _) rfl rfl rfl ?_
   refine s4 rfl (fun g24=>?_) fun g24=>?_
   ·refine s8 ?_
    omega
   refine s1 (ev_geq _ _ _) rfl rfl rfl ?_
   refine s4 rfl (fun g25=>?_) fun g25=>?_
   ·refine s8 ?_
    omega
   refine s1 (ev_geq _ _ _) rfl rfl rfl ?_
   refine s4 rfl (fun g26=>?_) fun g26=>?_
   ·refine s8 ?_
    omega
   refine s1 (ev_geq _ _ _) rfl rfl rfl ?_
   refine s4 rfl (fun g27=>?_) fun g27=>?_
   ·refine s8 ?_
    omega
   refine s1 (ev_geq _ _ _) rfl rfl rfl ?_
   refine s4 rfl (fun g28=>?_) fun g28=>?_
   ·refine s8 ?_
    omega
   refine s1 (ev_geq _ _ _) rfl rfl rfl ?_
   refine s4 rfl (fun g29=>?_) fun g29=>?_
   ·refine s8 ?_
    omega
   refine s1 (ev_geq _ _ _) rfl rfl rfl ?_
   refine s4 rfl (fun g30=>?_) fun g30=>?_
   ·refine s8 ?_
    omega
   refine s1 (ev_geq _ _ _) rfl rfl rfl ?_
   refine s4 rfl (fun g31=>?_) fun g31=>?_
   ·refine s8 ?_
    omega
   refine s1 (ev_geq _ _ _) rfl rfl rfl ?_
   refine s4 rfl (fun g32=>?_) fun g32=>?_
   ·refine s8 ?_
    omega
   refine s7 [.int .i64 _] rfl ?_
   refine congrArg (fun z=>[U.int .i64 z]) ?_; symm; first|exact wdl_a (by unfold okU; omega)|exact wdl_b (by unfold okU; omega) (by unfold inM; omega)|exact wdl_c (by unfold okU; omega) (by unfold inM; omega) (by unfold inW; omega)|exact wdl_d (by unfold okU; omega) (by unfold inM; omega) (by unfold inW; omega)
  refine s1 (ev_lss _ _ _) rfl rfl rfl ?_
  refine s4 rfl (fun g6=>?_) fun g6=>?_
  ·refine s7 [.int .i64 _] rfl ?_
   refine congrArg (fun z=>[U.int .i64 z]) ?_; symm; first|exact wdl_a (by unfold okU; omega)|exact wdl_b (by unfold okU; omega) (by unfold inM; omega)|exact wdl_c (by unfold okU; omega) (by unfold inM; omega) (by unfold inW; omega)|exact wdl_d (by unfold okU; omega) (by unfold inM; omega) (by unfold inW; omega)
  refine s8 ?_
  omega
 ·cases hs
noncomputable def L_wid:List (FuncId × FnC):=(105,conF Tryd.prog [.s 3] wid_s [.s 3])::L0
theorem L_wid_ok {G:Nat→Option Obj} (hst:StartOk Tryd.prog G gl H0 n0):ConsOk Tryd.prog G gl L_wid:=.cons (wid_c hst) (L0_ok hst)
end Go.Proofs.YtdkdbjgkedahfaaDoor

namespace Go.Proofs.YtdkdbjgkedahfaaDoor
set_option linter.all false
open Go Go.Sx
set_option maxRecDepth 100000
set_option linter.unusedVariables false
set_option linter.unusedSimpArgs false
theorem andn_bv (x:BitVec 64):x &&& ~~~(255#64)=(x >>> 8) <<< 8:=by
 have h:∀ i,i < 64→(255#64).getLsbD i=decide (i < 8):=by decide
 apply BitVec.eq_of_getLsbD_eq
 intro i hi
 rw [BitVec.getLsbD_and,BitVec.getLsbD_not,h i hi,BitVec.getLsbD_shiftLeft,BitVec.getLsbD_ushiftRight]
 by_cases h8:i < 8
 ·simp [h8]
 ·simp [h8,hi,show 8+(i - 8)=i by omega]
theorem ev_andN {a:Int} (h0 : -9223372036854775808≤a) (h1:a≤9223372036854775807):evU (.bin .andNot) [.int .i64 a,.int .i64 255]=.int .i64 (a - a % 256):=by
 rw [ev_andNot]
 have e:(BitVec.ofInt IntKind.i64.bits a &&& ~~~BitVec.ofInt IntKind.i64.bits 255).toNat=((BitVec.ofInt 64 a >>> 8) <<< 8).toNat:=congrArg BitVec.toNat (andn_bv (BitVec.ofInt 64 a))
 rw [e]
 have e2:((BitVec.ofInt 64 a >>> 8) <<< 8).toNat=(BitVec.ofInt 64 a).toNat / 256 * 256:=by
  rw [BitVec.toNat_shiftLeft,BitVec.toNat_ushiftRight,Nat.shiftLeft_eq,Nat.shiftRight_eq_div_pow]
  have:=(BitVec.ofInt 64 a).isLt
  exact Nat.mod_eq_of_lt (by omega)
 rw [e2,BitVec.toNat_ofInt]
 refine congrArg (U.int .i64) ?_
 have e3:((2 ^ 64:Nat):Int)=18446744073709551616:=by decide
 rw [e3]
 generalize hA:(a % 18446744073709551616).toNat=A
 have hA1:(A:Int)=a % 18446744073709551616:=by omega
 have e4:((A / 256 * 256:Nat):Int)=a % 18446744073709551616 - a % 256:=by omega
 rw [e4]
 simp only [IntKind.wrap,IntKind.bits,IntKind.signed]
 simp
 omega
def colS (k n:Int):Int:=if (k=0∧n=0)∨(k=1∧0≤n∧n≤255)∨(k=2∧0≤n∧n≤16777215) then 0 else 130
def colc_s:List U→Option (Nat × List U)
 | [.int .i64 k,.int .i64 n]=>some (0,[.int .i64 (colS k n)])
 | _=>none
theorem colc_s_e (k:Int) (n:Int):colc_s [.int .i64 k,.int .i64 n]=some (0,[.int .i64 (colS k n)]):=rfl
def colc_t:Tr:=.lt 8 (.bin .lss) [h 0 3,.int .i64 (0)] <| .br 2 (.ret [.int .i64 (130)]) (.lt 8 (.bin .geq) [h 0 3,.int .i64 (3)] <| .br 3 (.ret [.int .i64 (130)]) (.lt 8 (.bin .lss) [h 1 3,.int .i64 (0)] <| .br 4 (.ret [.int .i64 (130)]) (.lt 8 (.inb) [h 0 3,.int .i64 (3)] <| .br 5 (.lt 3 (.sel) [h 0 3,.int .i64 (0),.int .i64 (255),.int .i64 (16777215)] <| .lt 8 (.bin .gtr) [h 1 3,h 6 3] <| .br 7 (.ret [.int .i64 (130)]) (.ret [.int .i64 (0)])) (.no))))
theorem colc_c {G:Nat→Option Obj} (hst:StartOk Tryd.prog G gl H0 n0):ConOk Tryd.prog G 111 [.a [3,3]] colc_s [.s 3]:=by
 refine con_of_tree (C:=cx L_wid []) (d:=60) colc_t (cxg (L_wid_ok hst) .nil) hst ⟨Tryd.f111,_,Tryd.func111,rfl⟩ (by kernel_rfl) (by kernel_rfl) ?_
 intro us outs hs
 unfold colc_s at hs
 split at hs
 ·skip
  rename_i k n
  cases hs
  unfold colc_t
  refine s0 (.cons 1 _ (.cons 0 _ (.nil))) rfl (by simp [Ev.ok,Ev.len]) ?_
  refine s1 (ev_lss _ _ _) rfl rfl rfl ?_
  refine s4 rfl (fun g0=>?_) fun g0=>?_
  ·refine s7 [.int .i64 _] rfl ?_
   simp only [colS]; first|(rw [if_pos (by omega)]; done)|(rw [if_neg (by omega)]; done)|((obtain rfl|rfl|rfl:k=0∨k=1∨k=2:=(by omega)) <;> simp at * <;> first|(rw [if_pos (by omega)]; done)|(rw [if_neg (by omega)]; done)|omega)
  refine s1 (ev_geq _ _ _) rfl rfl rfl ?_
  refine s4 rfl (fun g1=>?_) fun g1=>?_
  ·refine s7 [.int .i64 _] rfl ?_
   simp only [colS]; first|(rw [if_pos (by omega)]; done)|(rw [if_neg (by omega)]; done)|((obtain rfl|rfl|rfl:k=0∨k=1∨k=2:=(by omega)) <;> simp at * <;> first|(rw [if_pos (by omega)]; done)|(rw [if_neg (by omega)]; done)|omega)
  refine s1 (ev_lss _ _ _) rfl rfl rfl ?_
  refine s4 rfl (fun g2=>?_) fun g2=>?_
  ·refine s7 [.int .i64 _] rfl ?_
   simp only [colS]; first|(rw [if_pos (by omega)]; done)|(rw [if_neg (by omega)]; done)|((obtain rfl|rfl|rfl:k=0∨k=1∨k=2:=(by omega)) <;> simp at * <;> first|(rw [if_pos (by omega)]; done)|(rw [if_neg (by omega)]; done)|omega)
  refine s1 (ev_inb _ _ _ _) rfl rfl rfl ?_
  refine s5 rfl (fun g3=>?_) fun g3=>?_
  ·refine s8 ?_
   first|omega|(simp_all; done)|(simp_all; omega)
  refine s1 (ev_selI [0,255,16777215] (by omega) (by show _ < ((3:Nat):Int); omega)) rfl rfl rfl ?_
  refine s1 (ev_gtr _ _ _) rfl rfl rfl ?_
  refine s4 rfl (fun g4=>?_) fun g4=>?_
  ·refine s7 [.int .i64 _] rfl ?_
   simp only [colS]; first|(rw [if_pos (by omega)]; done)|(rw [if_neg (by omega)]; done)|((obtain rfl|rfl|rfl:k=0∨k=1∨k=2:=(by omega)) <;> simp at * <;> first|(rw [if_pos (by omega)]; done)|(rw [if_neg (by omega)]; done)|omega)
  refine s7 [.int .i64 _] rfl ?_
  simp only [colS]; first|(rw [if_pos (by omega)]; done)|(rw [if_neg (by omega)]; done)|((obtain rfl|rfl|rfl:k=0∨k=1∨k=2:=(by omega)) <;> simp at * <;> first|(rw [if_pos (by omega)]; done)|(rw [if_neg (by omega)]; done)|omega)
 ·cases hs
noncomputable def L_colc:List (FuncId × FnC):=(111,conF Tryd.prog [.a [3,3]] colc_s [.s 3])::L_wid
theorem L_colc_ok {G:Nat→Option Obj} (hst:StartOk Tryd.prog G gl H0 n0):ConsOk Tryd.prog G gl L_colc:=.cons (colc_c hst) (L_wid_ok hst)
def styS (a u fk fn bk bn lk ln:Int):Int:=if a < 0∨255 < a∨u < 0∨5 < u then 140 else if colS fk fn≠0 then colS fk fn else if colS bk bn≠0 then colS bk bn else colS lk ln
theorem styl_a {a u fk fn bk bn lk ln:Int} (h:a < 0∨255 < a∨u < 0∨5 < u):styS a u fk fn bk bn lk ln=140:=if_pos h
theorem styl_b {a u fk fn bk bn lk ln:Int} (h:¬(a < 0∨255 < a∨u < 0∨5 < u)) (h2:colS fk fn≠0):styS a u fk fn bk bn lk ln=colS fk fn:=by unfold styS; rw [if_neg h,if_pos h2]
theorem styl_c {a u fk fn bk bn lk ln:Int} (h:¬(a < 0∨255 < a∨u < 0∨5 < u)) (h2:¬colS fk fn≠0) (h3:colS bk bn≠0):styS a u fk fn bk bn lk ln=colS bk bn:=by unfold styS; rw [if_neg h,if_neg h2,if_pos h3]
theorem styl_d {a u fk fn bk bn lk ln:Int} (h:¬(a < 0∨255 < a∨u < 0∨5 < u)) (h2:¬colS fk fn≠0) (h3:¬colS bk bn≠0):styS a u fk fn bk bn lk ln=colS lk ln:=by unfold styS; rw [if_neg h,if_neg h2,if_neg h3]
theorem styl_0 {a u fk fn bk bn lk ln:Int} (h:¬(a < 0∨255 < a∨u < 0∨5 < u)) (h2:¬colS fk fn≠0) (h3:¬colS bk bn≠0) (h4:¬colS lk ln≠0):styS a u fk fn bk bn lk ln=0:=by rw [styl_d h h2 h3]; exact Classical.not_not.1 h4
def sty_s:List U→Option (Nat × List U)
 | [.int .i64 a,.int .i64 u,.int .i64 fk,.int .i64 fn,.int .i64 bk,.int .i64 bn,.int .i64 lk,.int .i64 ln]=>if (-9223372036854775808≤a∧a≤9223372036854775807) then some (0,[.int .i64 (styS a u fk fn bk bn lk ln)]) else none
 | _=>none
theorem sty_s_e (a:Int) (u:Int) (fk:Int) (fn:Int) (bk:Int) (bn:Int) (lk:Int) (ln:Int) (hc:(-9223372036854775808≤a∧a≤9223372036854775807)):sty_s [.int .i64 a,.int .i64 u,.int .i64 fk,.int .i64 fn,.int .i64 bk,.int .i64 bn,.int .i64 lk,.int .i64 ln]=some (0,[.int .i64 (styS a u fk fn bk bn lk ln)]):=if_pos hc
def sty_t:Tr:=.lt 3 (.bin .andNot) [h 0 3,.int .i64 (255)] <| .lt 8 (.bin .neq) [h 8 3,.int .i64 (0)] <| .br 9 (.ret [.int .i64 (140)]) (.lt 8 (.bin .lss) [h 1 3,.int .i64 (0)] <| .br 10 (.ret [.int .i64 (140)]) (.lt 8 (.bin .gtr) [h 1 3,.int .i64 (5)] <| .br 11 (.ret [.int .i64 (140)]) (.fn colc_s [h 2 3,h 3 3] 1 <| .lt 8 (.bin .neq) [h 12 3,.int .i64 (0)] <| .br 13 (.ret [h 12 3]) (.fn colc_s [h 4 3,h 5 3] 1 <| .lt 8 (.bin .neq) [h 14 3,.int .i64 (0)] <| .br 15 (.ret [h 14 3]) (.fn colc_s [h 6 3,h 7 3] 1 <| .lt 8 (.bin .neq) [h 16 3,.int .i64 (0)] <| .br 17 (.ret [h 16 3]) (.ret [.int .i64 (0)]))))))
theorem sty_c {G:Nat→Option Obj} (hst:StartOk Tryd.prog G gl H0 n0):ConOk Tryd.prog G 107 [.a [3,3,3,3,3,3,3,3]] sty_s [.s 3]:=by
 refine con_of_tree (C:=cx L_colc []) (d:=60) sty_t (cxg (L_colc_ok hst) .nil) hst ⟨Tryd.f107,_,Tryd.func107,rfl⟩ (by kernel_rfl) (by kernel_rfl) ?_
 intro us outs hs
 unfold sty_s at hs
 split at hs
 ·skip
  rename_i a u fk fn bk bn lk ln
  split at hs
  ·rename_i hc
   cases hs
   unfold sty_t
   refine s0 (.cons 7 _ (.cons 6 _ (.cons 5 _ (.cons 4 _ (.cons 3 _ (.cons 2 _ (.cons 1 _ (.cons 0 _ (.nil))))))))) rfl (by simp [Ev.ok,Ev.len]) ?_
   refine s1 (ev_andN hc.1 hc.2) rfl rfl rfl ?_
   refine s1 (ev_neq _ _ _) rfl rfl rfl ?_
   refine s4 rfl (fun g0=>?_) fun g0=>?_
   ·refine s7 [.int .i64 _] rfl ?_
    refine congrArg (fun z=>[U.int .i64 z]) ?_; symm; first|exact styl_a (by omega)|exact styl_b (by omega) (by assumption)|exact styl_c (by omega) (by assumption) (by assumption)|exact styl_d (by omega) (by assumption) (by assumption)|exact styl_0 (by omega) (by assumption) (by assumption) (by assumption)
   refine s1 (ev_lss _ _ _) rfl rfl rfl ?_
   refine s4 rfl (fun g1=>?_) fun g1=>?_
   ·refine s7 [.int .i64 _] rfl ?_
    refine congrArg (fun z=>[U.int .i64 z]) ?_; symm; first|exact styl_a (by omega)|exact styl_b (by omega) (by assumption)|exact styl_c (by omega) (by assumption) (by assumption)|exact styl_d (by omega) (by assumption) (by assumption)|exact styl_0 (by omega) (by assumption) (by assumption) (by assumption)
   refine s1 (ev_gtr _ _ _) rfl rfl rfl ?_
   refine s4 rfl (fun g2=>?_) fun g2=>?_
   ·refine s7 [.int .i64 _] rfl ?_
    refine congrArg (fun z=>[U.int .i64 z]) ?_; symm; first|exact styl_a (by omega)|exact styl_b (by omega) (by assumption)|exact styl_c (by omega) (by assumption) (by assumption)|exact styl_d (by omega) (by assumption) (by assumption)|exact styl_0 (by omega) (by assumption) (by assumption) (by assumption)
   refine s31 (colc_s_e _ _) rfl ?_
   refine s1 (ev_neq _ _ _) rfl rfl rfl ?_
   refine s4 rfl (fun g3=>?_) fun g3=>?_
   ·refine s7 [.int .i64 _] rfl ?_
    refine congrArg (fun z=>[U.int .i64 z]) ?_; symm; first|exact styl_a (by omega)|exact styl_b (by omega) (by assumption)|exact styl_c (by omega) (by assumption) (by assumption)|exact styl_d (by omega) (by assumption) (by assumption)|exact styl_0 (by omega) (by assumption) (by assumption) (by assumption)
   refine s31 (colc_s_e _ _) rfl ?_
   refine s1 (ev_neq _ _ _) rfl rfl rfl ?_
   refine s4 rfl (fun g4=>?_) fun g4=>?_
   ·refine s7 [.int .i64 _] rfl ?_
    refine congrArg (fun z=>[U.int .i64 z]) ?_; symm; first|exact styl_a (by omega)|exact styl_b (by omega) (by assumption)|exact styl_c (by omega) (by assumption) (by assumption)|exact styl_d (by omega) (by assumption) (by assumption)|exact styl_0 (by omega) (by assumption) (by assumption) (by assumption)
   refine s31 (colc_s_e _ _) rfl ?_
   refine s1 (ev_neq _ _ _) rfl rfl rfl ?_
   refine s4 rfl (fun g5=>?_) fun g5=>?_
   ·refine s7 [.int .i64 _] rfl ?_
    refine congrArg (fun z=>[U.int .i64 z]) ?_; symm; first|exact styl_a (by omega)|exact styl_b (by omega) (by assumption)|exact styl_c (by omega) (by assumption) (by assumption)|exact styl_d (by omega) (by assumption) (by assumption)|exact styl_0 (by omega) (by assumption) (by assumption) (by assumption)
   refine s7 [.int .i64 _] rfl ?_
   refine congrArg (fun z=>[U.int .i64 z]) ?_; symm; first|exact styl_a (by omega)|exact styl_b (by omega) (by assumption)|exact styl_c (by omega) (by assumption) (by assumption)|exact styl_d (by omega) (by assumption) (by assumption)|exact styl_0 (by omega) (by assumption) (by assumption) (by assumption)
  ·cases hs
 ·cases hs
end Go.Proofs.YtdkdbjgkedahfaaDoor

namespace Go.Proofs.YtdkdbjgkedahfaaDoor
set_option linter.all false
open Go Go.Sx
set_option maxRecDepth 100000
set_option linter.unusedVariables false
set_option linter.unusedSimpArgs false
def fitP (b m0 m1 wd:Int):Prop:=(b=0∧m0=0∧m1=0∧wd=2)∨(0≤wd∧wd≤1∧widS b=wd+1∧(m0=0∨widS m0=0)∧(m1=0∨(m0≠0∧widS m1=0)))
instance (b m0 m1 wd:Int):Decidable (fitP b m0 m1 wd):=by unfold fitP; infer_instance
def celS (b m0 m1 wd at_ un fk fn bk bn lk ln:Int):Int:=if fitP b m0 m1 wd∧styS at_ un fk fn bk bn lk ln=0 then 0 else 221
theorem lcel_ok {b m0 m1 wd at_ un fk fn bk bn lk ln:Int} (h:fitP b m0 m1 wd) (h2:styS at_ un fk fn bk bn lk ln=0):[U.int .i64 0]=[U.int .i64 (celS b m0 m1 wd at_ un fk fn bk bn lk ln)]:=by unfold celS; rw [if_pos ⟨h,h2⟩]
theorem lcel_f {b m0 m1 wd at_ un fk fn bk bn lk ln:Int} (h:¬fitP b m0 m1 wd):[U.int .i64 221]=[U.int .i64 (celS b m0 m1 wd at_ un fk fn bk bn lk ln)]:=by unfold celS; rw [if_neg (fun h2=>h h2.1)]
theorem lcel_s {b m0 m1 wd at_ un fk fn bk bn lk ln:Int} (h:styS at_ un fk fn bk bn lk ln≠0):[U.int .i64 221]=[U.int .i64 (celS b m0 m1 wd at_ un fk fn bk bn lk ln)]:=by unfold celS; rw [if_neg (fun h2=>h h2.2)]
noncomputable def U_cel:List (FuncId × FnC):=(105,conF Tryd.prog [.s 3] wid_s [.s 3])::(107,conF Tryd.prog [.a [3,3,3,3,3,3,3,3]] sty_s [.s 3])::L0
theorem U_cel_ok {G:Nat→Option Obj} (hst:StartOk Tryd.prog G gl H0 n0):ConsOk Tryd.prog G gl U_cel:=(.cons (wid_c hst) (.cons (sty_c hst) .nil))
def cel_s:List U→Option (Nat × List U)
 | [.int .i64 b,.int .i64 m0,.int .i64 m1,.int .i64 wd,.int .i64 at_,.int .i64 un,.int .i64 fk,.int .i64 fn,.int .i64 bk,.int .i64 bn,.int .i64 lk,.int .i64 ln]=>if (-9223372036854775808≤at_∧at_≤9223372036854775807) then some (0,[.int .i64 (celS b m0 m1 wd at_ un fk fn bk bn lk ln)]) else none
 | _=>none
theorem cel_s_e (b:Int) (m0:Int) (m1:Int) (wd:Int) (at_:Int) (un:Int) (fk:Int) (fn:Int) (bk:Int) (bn:Int) (lk:Int) (ln:Int) (hc:(-9223372036854775808≤at_∧at_≤9223372036854775807)):cel_s [.int .i64 b,.int .i64 m0,.int .i64 m1,.int .i64 wd,.int .i64 at_,.int .i64 un,.int .i64 fk,.int .i64 fn,.int .i64 bk,.int .i64 bn,.int .i64 lk,.int .i64 ln]=some (0,[.int .i64 (celS b m0 m1 wd at_ un fk fn bk bn lk ln)]):=if_pos hc
def cel_t:Tr:=.lt 8 (.eqs) [h 0 3,.int .i64 (0),h 1 3,.int .i64 (0),h 2 3,.int .i64 (0),h 3 3,.int .i64 (2),h 4 3,h 4 3,h 5 3,h 5 3,h 6 3,h 6 3,h 7 3,h 7 3,h 8 3,h 8 3,h 9 3,h 9 3,h 10 3,h 10 3,h 11 3,h 11 3] <| .br 12 (.fn sty_s [h 4 3,h 5 3,h 6 3,h 7 3,h 8 3,h 9 3,h 10 3,h 11 3] 1 <| .lt 8 (.bin .neq) [h 13 3,.int .i64 (0)] <| .br 14 (.ret [.int .i64 (221)]) (.ret [.int .i64 (0)])) (.lt 8 (.bin .geq) [h 3 3,.int .i64 (0)] <| .br 13 (.lt 8 (.bin .leq) [h 3 3,.int .i64 (1)] <| .br 14 (.fn wid_s [h 0 3] 1 <| .lt 3 (.bin .add) [h 3 3,.int .i64 (1)] <| .lt 8 (.bin .eql) [h 15 3,h 16 3] <| .br 17 (.lt 8 (.bin .neq) [h 1 3,.int .i64 (0)] <| .br 18 (.fn wid_s [h 1 3] 1 <| .lt 8 (.bin .neq) [h 19 3,.int .i64 (0)] <| .br 20 (.ret [.int .i64 (221)]) (.lt 8 (.bin .eql) [h 1 3,.int .i64 (0)] <| .lt 8 (.bin .neq) [h 2 3,.int .i64 (0)] <| .br 22 (.br 21 (.ret [.int .i64 (221)]) (.fn wid_s [h 2 3] 1 <| .lt 8 (.bin .neq) [h 23 3,.int .i64 (0)] <| .br 24 (.ret [.int .i64 (221)]) (.lt 8 (.bin .eql) [h 2 3,.int .i64 (0)] <| .fn sty_s [h 4 3,h 5 3,h 6 3,h 7 3,h 8 3,h 9 3,h 10 3,h 11 3] 1 <| .lt 8 (.bin .neq) [h 26 3,.int .i64 (0)] <| .br 27 (.ret [.int .i64 (221)]) (.ret [.int .i64 (0)])))) (.br 21 (.fn sty_s [h 4 3,h 5 3,h 6 3,h 7 3,h 8 3,h 9 3,h 10 3,h 11 3] 1 <| .lt 8 (.bin .neq) [h 23 3,.int .i64 (0)] <| .br 24 (.ret [.int .i64 (221)]) (.ret [.int .i64 (0)])) (.lt 8 (.bin .eql) [h 2 3,.int .i64 (0)] <| .fn sty_s [h 4 3,h 5 3,h 6 3,h 7 3,h 8 3,h 9 3,h 10 3,h 11 3] 1 <| .lt 8 (.bin .neq) [h 24 3,.int .i64 (0)] <| .br 25 (.ret [.int .i64 (221)]) (.ret [.int .i64 (0)]))))) (.lt 8 (.bin .eql) [h 1 3,.int .i64 (0)] <| .lt 8 (.bin .neq) [h 2 3,.int .i64 (0)] <| .br 20 (.br 19 (.ret [.int .i64 (221)]) (.fn wid_s [h 2 3] 1 <| .lt 8 (.bin .neq) [h 21 3,.int .i64 (0)] <| .br 22 (.ret [.int .i64 (221)]) (.lt 8 (.bin .eql) [h 2 3,.int .i64 (0)] <| .fn sty_s [h 4 3,h 5 3,h 6 3,h 7 3,h 8 3,h 9 3,h 10 3,h 11 3] 1 <| .lt 8 (.bin .neq) [h 24 3,.int .i64 (0)] <| .br 25 (.ret [.int .i64 (221)]) (.ret [.int .i64 (0)])))) (.br 19 (.fn sty_s [h 4 3,h 5 3,h 6 3,h 7 3,h 8 3,h 9 3,h 10 3,h 11 3] 1 <| .lt 8 (.bin .neq) [h 21 3,.int .i64 (0)] <| .br 22 (.ret [.int .i64 (221)]) (.ret [.int .i64 (0)])) (.lt 8 (.bin .eql) [h 2 3,.int .i64 (0)] <| .fn sty_s [h 4 3,h 5 3,h 6 3,h 7 3,h 8 3,h 9 3,h 10 3,h 11 3] 1 <| .lt 8 (.bin .neq) [h 22 3,.int .i64 (0)] <| .br 23 (.ret [.int .i64 (221)]) (.ret [.int .i64 (0)]))))) (.ret [.int .i64 (221)])) (.ret [.int .i64 (221)])) (.ret [.int .i64 (221)]))
theorem cel_c {G:Nat→Option Obj} (hst:StartOk Tryd.prog G gl H0 n0):ConOk Tryd.prog G 95 [.a [3,3,3,3,3,3,3,3,3,3,3,3]] cel_s [.s 3]:=by
 refine con_of_tree (C:=cx U_cel []) (d:=60) cel_t (cxg (U_cel_ok hst) .nil) hst ⟨Tryd.f95,_,Tryd.func95,rfl⟩ (by kernel_rfl) (by kernel_rfl) ?_
 intro us outs hs
 unfold cel_s at hs
 split at hs
 ·skip
  rename_i b m0 m1 wd at_ un fk fn bk bn lk ln
  split at hs
  ·rename_i hc
   cases hs
   unfold cel_t
   refine s0 (.cons 11 _ (.cons 10 _ (.cons 9 _ (.cons 8 _ (.cons 7 _ (.cons 6 _ (.cons 5 _ (.cons 4 _ (.cons 3 _ (.cons 2 _ (.cons 1 _ (.cons 0 _ (.nil))))))))))))) rfl (by simp [Ev.ok,Ev.len]) ?_
   refine s1 rfl rfl rfl rfl ?_
   first|refine s4 rfl (fun g0=>?_) (fun g0=>?_)|refine s4B rfl (fun g0=>?_) (fun g0=>?_)
   ·have g0:(b=0∧m0=0∧m1=0∧wd=2):=by simpa using g0
    refine s31 (sty_s_e _ _ _ _ _ _ _ _ (by omega)) rfl ?_
    refine s1 (ev_neq _ _ _) rfl rfl rfl ?_
    refine s4 rfl (fun g1=>?_) fun g1=>?_
    ·refine s7 [.int .i64 _] rfl ?_
     first|exact lcel_ok (by unfold fitP; omega) (by omega)|exact lcel_f (by unfold fitP; omega)|exact lcel_s (by omega)
    refine s7 [.int .i64 _] rfl ?_
    first|exact lcel_ok (by unfold fitP; omega) (by omega)|exact lcel_f (by unfold fitP; omega)|exact lcel_s (by omega)
   have g0:¬(b=0∧m0=0∧m1=0∧wd=2):=by simpa using g0
   refine s1 (ev_geq _ _ _) rfl rfl rfl ?_
   refine s5 rfl (fun g1=>?_) fun g1=>?_
   ·refine s7 [.int .i64 _] rfl ?_
    first|exact lcel_ok (by unfold fitP; omega) (by omega)|exact lcel_f (by unfold fitP; omega)|exact lcel_s (by omega)
   refine s1 (ev_leq _ _ _) rfl rfl rfl ?_
   refine s5 rfl (fun g2=>?_) fun g2=>?_
   ·refine s7 [.int .i64 _] rfl ?_
    first|exact lcel_ok (by unfold fitP; omega) (by omega)|exact lcel_f (by unfold fitP; omega)|exact lcel_s (by omega)
   refine s31 (wid_s_e _) rfl ?_
   first|refine s1 (ev_addW (wrap64 (by omega) (by omega))) rfl rfl rfl ?_|refine s1 (ev_add _ _ _) rfl rfl rfl ?_
   refine s1 (ev_eql _ _ _) rfl rfl rfl ?_
   refine s5 rfl (fun g3=>?_) fun g3=>?_
   ·refine s7 [.int .i64 _] rfl ?_
    first|exact lcel_ok (by unfold fitP; omega) (by omega)|exact lcel_f (by unfold fitP; omega)|exact lcel_s (by omega)
   refine s1 (ev_neq _ _ _) rfl rfl rfl ?_
   refine s4 rfl (fun g4=>?_) fun g4=>?_
   ·refine s31 (wid_s_e _) rfl ?_
    refine s1 (ev_neq _ _ _) rfl rfl rfl ?_
    refine s4 rfl (fun g5=>?_) fun g5=>?_
    ·refine s7 [.int .i64 _] rfl ?_
     first|exact lcel_ok (by unfold fitP; omega) (by omega)|exact lcel_f (by unfold fitP; omega)|exact lcel_s (by omega)
    refine s1 (ev_eql _ _ _) rfl rfl rfl ?_
    refine s1 (ev_neq _ _ _) rfl rfl rfl ?_
    refine s4 rfl (fun g6=>?_) fun g6=>?_
    ·refine s4 rfl (fun g7=>?_) fun g7=>?_
     ·refine s7 [.int .i64 _] rfl ?_
      first|exact lcel_ok (by unfold fitP; omega) (by omega)|exact lcel_f (by unfold fitP; omega)|exact lcel_s (by omega)
     refine s31 (wid_s_e _) rfl ?_
     refine s1 (ev_neq _ _ _) rfl rfl rfl ?_
     refine s4 rfl (fun g8=>?_) fun g8=>?_
     ·refine s7 [.int .i64 _] rfl ?_
      first|exact lcel_ok (by unfold fitP; omega) (by omega)|exact lcel_f (by unfold fitP; omega)|exact lcel_s (by omega)
     refine s1 (ev_eql _ _ _) rfl rfl rfl ?_
     refine s31 (sty_s_e _ _ _ _ _ _ _ _ (by omega)) rfl ?_
     refine s1 (ev_neq _ _ _) rfl rfl rfl ?_
     refine s4 rfl (fun g9=>?_) fun g9=>?_
     ·refine s7 [.int .i64 _] rfl ?_
      first|exact lcel_ok (by unfold fitP; omega) (by omega)|exact lcel_f (by unfold fitP; omega)|exact lcel_s (by omega)
     refine s7 [.int .i64 _] rfl ?_
     first|exact lcel_ok (by unfold fitP; omega) (by omega)|exact lcel_f (by unfold fitP; omega)|exact lcel_s (by omega)
    refine s4 rfl (fun g7=>?_) fun g7=>?_
    ·refine s31 (sty_s_e _ _ _ _ _ _ _ _ (by omega)) rfl ?_
     refine s1 (ev_neq _ _ _) rfl rfl rfl ?_
     refine s4 rfl (fun g8=>?_) fun g8=>?_
     ·refine s7 [.int .i64 _] rfl ?_
      first|exact lcel_ok (by unfold fitP; omega) (by omega)|exact lcel_f (by unfold fitP; omega)|exact lcel_s (by omega)
     refine s7 [.int .i64 _] rfl ?_
     first|exact lcel_ok (by unfold fitP; omega) (by omega)|exact lcel_f (by unfold fitP; omega)|exact lcel_s (by omega)
    refine s1 (ev_eql _ _ _) rfl rfl rfl ?_
    refine s31 (sty_s_e _ _ _ _ _ _ _ _ (by omega)) rfl ?_
    refine s1 (ev_neq _ _ _) rfl rfl rfl ?_
    refine s4 rfl (fun g8=>?_) fun g8=>?_
    ·refine s7 [.int .i64 _] rfl ?_
     first|exact lcel_ok (by unfold fitP; omega) (by omega)|exact lcel_f (by unfold fitP; omega)|exact lcel_s (by omega)
    refine s7 [.int .i64 _] rfl ?_
    first|exact lcel_ok (by unfold fitP; omega) (by omega)|exact lcel_f (by unfold fitP; omega)|exact lcel_s (by omega)
   refine s1 (ev_eql _ _ _) rfl rfl rfl ?_
   refine s1 (ev_neq _ _ _) rfl rfl rfl ?_
   refine s4 rfl (fun g5=>?_) fun g5=>?_
   ·refine s4 rfl (fun g6=>?_) fun g6=>?_
    ·refine s7 [.int .i64 _] rfl ?_
     first|exact lcel_ok (by unfold fitP; omega) (by omega)|exact lcel_f (by unfold fitP; omega)|exact lcel_s (by omega)
    refine s31 (wid_s_e _) rfl ?_
    refine s1 (ev_neq _ _ _) rfl rfl rfl ?_
    refine s4 rfl (fun g7=>?_) fun g7=>?_
    ·refine s7 [.int .i64 _] rfl ?_
     first|exact lcel_ok (by unfold fitP; omega) (by omega)|exact lcel_f (by unfold fitP; omega)|exact lcel_s (by omega)
    refine s1 (ev_eql _ _ _) rfl rfl rfl ?_
    refine s31 (sty_s_e _ _ _ _ _ _ _ _ (by omega)) rfl ?_
    refine s1 (ev_neq _ _ _) rfl rfl rfl ?_
    refine s4 rfl (fun g8=>?_) fun g8=>?_
    ·refine s7 [.int .i64 _] rfl ?_
     first|exact lcel_ok (by unfold fitP; omega) (by omega)|exact lcel_f (by unfold fitP; omega)|exact lcel_s (by omega)
    refine s7 [.int .i64 _] rfl ?_
    first|exact lcel_ok (by unfold fitP; omega) (by omega)|exact lcel_f (by unfold fitP; omega)|exact lcel_s (by omega)
   refine s4 rfl (fun g6=>?_) fun g6=>?_
   ·refine s31 (sty_s_e _ _ _ _ _ _ _ _ (by omega)) rfl ?_
    refine s1 (ev_neq _ _ _) rfl rfl rfl ?_
    refine s4 rfl (fun g7=>?_) fun g7=>?_
    ·refine s7 [.int .i64 _] rfl ?_
     first|exact lcel_ok (by unfold fitP; omega) (by omega)|exact lcel_f (by unfold fitP; omega)|exact lcel_s (by omega)
    refine s7 [.int .i64 _] rfl ?_
    first|exact lcel_ok (by unfold fitP; omega) (by omega)|exact lcel_f (by unfold fitP; omega)|exact lcel_s (by omega)
   refine s1 (ev_eql _ _ _) rfl rfl rfl ?_
   refine s31 (sty_s_e _ _ _ _ _ _ _ _ (by omega)) rfl ?_
   refine s1 (ev_neq _ _ _) rfl rfl rfl ?_
   refine s4 rfl (fun g7=>?_) fun g7=>?_
   ·refine s7 [.int .i64 _] rfl ?_
    first|exact lcel_ok (by unfold fitP; omega) (by omega)|exact lcel_f (by unfold fitP; omega)|exact lcel_s (by omega)
   refine s7 [.int .i64 _] rfl ?_
   first|exact lcel_ok (by unfold fitP; omega) (by omega)|exact lcel_f (by unfold fitP; omega)|exact lcel_s (by omega)
  ·cases hs
 ·cases hs
end Go.Proofs.YtdkdbjgkedahfaaDoor
