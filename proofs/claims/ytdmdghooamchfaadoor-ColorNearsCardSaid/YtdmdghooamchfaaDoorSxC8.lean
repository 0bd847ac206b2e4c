/- What functions of the program come to: contracts, each by the tree of its ways. -/
import Derived.Test.YtdmdghooamchfaaDoorSxC6
import Derived.Test.YtdmdghooamchfaaDoorSxC7
namespace Go.Proofs.YtdmdghooamchfaaDoor
set_option linter.all false
open Go Go.Sx
set_option maxRecDepth 100000
set_option linter.unusedVariables false
set_option linter.unusedSimpArgs false

def U_works : List (FuncId × FnC) := (27, tabF [.s 3, .s 3] near_s [.s 8] [([.int .i64 (0), .int .i64 (0)], [.bool true]), ([.int .i64 (16777215), .int .i64 (15)], [.bool true]), ([.int .i64 (6260480), .int .i64 (64)], [.bool true]), ([.int .i64 (657930), .int .i64 (232)], [.bool true])]) :: (12, tabF [.a [3, 3]] textk_s [.s 9, .s 3] [([.int .i64 (1), .int .i64 (9)], [.str [114, 103, 98, 58, 102, 102, 47, 48, 48, 47, 48, 48], .int .i64 (0)]), ([.int .i64 (0), .int .i64 (0)], [.str [], .int .i64 (2)]), ([.int .i64 (2), .int .i64 (-1)], [.str [], .int .i64 (130)])]) :: (20, tabF [.s 9] parsek_s [.a [3, 3], .s 3] [([.str [114, 103, 98, 58, 65, 98, 47, 48, 49, 47, 102, 70]], [.int .i64 (2), .int .i64 (11207167), .int .i64 (0)]), ([.str [114, 103, 98, 58, 97, 98, 47, 48, 49]], [.int .i64 (0), .int .i64 (0), .int .i64 (6)]), ([.str [114, 103, 98, 58, 97, 98, 47, 48, 49, 47, 102]], [.int .i64 (0), .int .i64 (0), .int .i64 (6)])]) :: L0
theorem U_works_ok {G : Nat → Option Obj} (hst : StartOk Tryd.prog G gl H0 n0) : ConsOk Tryd.prog G gl U_works := (.consT [([.int .i64 (0), .int .i64 (0)], [.bool true]), ([.int .i64 (16777215), .int .i64 (15)], [.bool true]), ([.int .i64 (6260480), .int .i64 (64)], [.bool true]), ([.int .i64 (657930), .int .i64 (232)], [.bool true])] (near_c hst) (tb_cons (near_k (n := 0) (i := 0) (by decide) (by kernel_rfl)) (tb_cons (near_k (n := 16777215) (i := 15) (by decide) (by kernel_rfl)) (tb_cons (near_k (n := 6260480) (i := 64) (by decide) (by kernel_rfl)) (tb_cons (near_k (n := 657930) (i := 232) (by decide) (by kernel_rfl)) rfl)))) (.consT [([.int .i64 (1), .int .i64 (9)], [.str [114, 103, 98, 58, 102, 102, 47, 48, 48, 47, 48, 48], .int .i64 (0)]), ([.int .i64 (0), .int .i64 (0)], [.str [], .int .i64 (2)]), ([.int .i64 (2), .int .i64 (-1)], [.str [], .int .i64 (130)])] (textk_c hst) (by kernel_rfl) (.consT [([.str [114, 103, 98, 58, 65, 98, 47, 48, 49, 47, 102, 70]], [.int .i64 (2), .int .i64 (11207167), .int .i64 (0)]), ([.str [114, 103, 98, 58, 97, 98, 47, 48, 49]], [.int .i64 (0), .int .i64 (0), .int .i64 (6)]), ([.str [114, 103, 98, 58, 97, 98, 47, 48, 49, 47, 102]], [.int .i64 (0), .int .i64 (0), .int .i64 (6)])] (parsek_c hst) (by kernel_rfl) .nil)))
def works_s : List U → Option (Nat × List U)
  | [] => some (0, [.bool (true)])
  | _ => none
theorem works_s_e  : works_s [] = some (0, [.bool (true)]) := rfl
def works_t : Tr := .ret [.bool true]
theorem works_c {G : Nat → Option Obj} (hst : StartOk Tryd.prog G gl H0 n0) : ConOk Tryd.prog G 16 [] works_s [.s 8] := by
  refine con_of_tree (C := cx U_works P_near0) (d := 60) works_t (cxg (U_works_ok hst) (P_near0_ok hst)) hst ⟨Tryd.f16, _, Tryd.func16, rfl⟩ (by kernel_rfl) (by kernel_rfl) ?_
  intro us outs hs
  unfold works_s at hs
  split at hs
  · skip
    cases hs
    unfold works_t
    refine sat_ret [.bool _] rfl ?_
    first | rfl | (simp [*]; done) | (simp [*]; omega)
  · cases hs
def L_works : List (FuncId × FnC) := (16, conF [] works_s [.s 8]) :: L_near
theorem L_works_ok {G : Nat → Option Obj} (hst : StartOk Tryd.prog G gl H0 n0) : ConsOk Tryd.prog G gl L_works := .cons (works_c hst) (L_near_ok hst)

def U_known : List (FuncId × FnC) := (27, tabF [.s 3, .s 3] near_s [.s 8] [([.int .i64 (8355711), .int .i64 (8)], [.bool true]), ([.int .i64 (6053119), .int .i64 (12)], [.bool true]), ([.int .i64 (15658734), .int .i64 (255)], [.bool true])]) :: (16, tabF [] works_s [.s 8] [([], [.bool true])]) :: (18, tabF [.s 3] nearest_s [.s 3, .s 3] [([.int .i64 (-1)], [.int .i64 (0), .int .i64 (2)]), ([.int .i64 (16777216)], [.int .i64 (0), .int .i64 (2)])]) :: L0
theorem U_known_ok {G : Nat → Option Obj} (hst : StartOk Tryd.prog G gl H0 n0) : ConsOk Tryd.prog G gl U_known := (.consT [([.int .i64 (8355711), .int .i64 (8)], [.bool true]), ([.int .i64 (6053119), .int .i64 (12)], [.bool true]), ([.int .i64 (15658734), .int .i64 (255)], [.bool true])] (near_c hst) (tb_cons (near_k (n := 8355711) (i := 8) (by decide) (by kernel_rfl)) (tb_cons (near_k (n := 6053119) (i := 12) (by decide) (by kernel_rfl)) (tb_cons (near_k (n := 15658734) (i := 255) (by decide) (by kernel_rfl)) rfl))) (.consT [([], [.bool true])] (works_c hst) (by kernel_rfl) (.consT [([.int .i64 (-1)], [.int .i64 (0), .int .i64 (2)]), ([.int .i64 (16777216)], [.int .i64 (0), .int .i64 (2)])] (nearest_c hst) (by kernel_rfl) .nil)))
def known_s : List U → Option (Nat × List U)
  | [] => some (0, [.bool (true)])
  | _ => none
theorem known_s_e  : known_s [] = some (0, [.bool (true)]) := rfl
def known_t : Tr := .ret [.bool true]
theorem known_c {G : Nat → Option Obj} (hst : StartOk Tryd.prog G gl H0 n0) : ConOk Tryd.prog G 9 [] known_s [.s 8] := by
  refine con_of_tree (C := cx U_known P_near0) (d := 60) known_t (cxg (U_known_ok hst) (P_near0_ok hst)) hst ⟨Tryd.f9, _, Tryd.func9, rfl⟩ (by kernel_rfl) (by kernel_rfl) ?_
  intro us outs hs
  unfold known_s at hs
  split at hs
  · skip
    cases hs
    unfold known_t
    refine sat_ret [.bool _] rfl ?_
    first | rfl | (simp [*]; done) | (simp [*]; omega)
  · cases hs
def L_known : List (FuncId × FnC) := (9, conF [] known_s [.s 8]) :: L_works
theorem L_known_ok {G : Nat → Option Obj} (hst : StartOk Tryd.prog G gl H0 n0) : ConsOk Tryd.prog G gl L_known := .cons (known_c hst) (L_works_ok hst)
end Go.Proofs.YtdmdghooamchfaaDoor
