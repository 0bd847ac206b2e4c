/- What functions of the program come to: contracts, each by the tree of its ways. -/
import Derived.Test.YtdmdghooamchfaaDoorSxC8
namespace Go.Proofs.YtdmdghooamchfaaDoor
set_option linter.all false
open Go Go.Sx
set_option maxRecDepth 100000
set_option linter.unusedVariables false
set_option linter.unusedSimpArgs false
def rgbS (k n : Int) : Int := if k = 1 ∧ 0 ≤ n ∧ n ≤ 255 then atS n else if k = 2 ∧ 0 ≤ n ∧ n ≤ 16777215 then n else 0
def rgbB (k n : Int) : Bool := decide ((k = 1 ∧ 0 ≤ n ∧ n ≤ 255) ∨ (k = 2 ∧ 0 ≤ n ∧ n ≤ 16777215))
theorem rgb_leaf {a c : Int} {b d : Bool} (h : a = c) (k : b = d) : [U.int .i64 a, U.bool b] = [U.int .i64 c, U.bool d] := by rw [h, k]
theorem check_iff {k n : Int} : checkS k n = 0 ↔ ((k = 0 ∧ n = 0) ∨ (k = 1 ∧ 0 ≤ n ∧ n ≤ 255) ∨ (k = 2 ∧ 0 ≤ n ∧ n ≤ 16777215)) := by unfold checkS; split <;> omega


def rgb_s : List U → Option (Nat × List U)
  | [.int .i64 k, .int .i64 n] => some (0, [.int .i64 (rgbS k n), .bool (rgbB k n)])
  | _ => none
theorem rgb_s_e (k : Int) (n : Int) : rgb_s [.int .i64 k, .int .i64 n] = some (0, [.int .i64 (rgbS k n), .bool (rgbB k n)]) := rfl
def rgb_t : Tr := .fn check_s [h 0 3, h 1 3] 1 <| .lt 8 (.bin .neq) [h 2 3, .int .i64 (0)] <| .br 3 (.ret [.int .i64 (0), .bool false]) (.lt 8 (.bin .eql) [h 0 3, .int .i64 (1)] <| .br 4 (.fn at_s [h 1 3] 1 <| .ret [h 5 3, .bool true]) (.lt 8 (.bin .eql) [h 0 3, .int .i64 (2)] <| .br 5 (.ret [h 1 3, .bool true]) (.ret [.int .i64 (0), .bool false])))
theorem rgb_c {G : Nat → Option Obj} (hst : StartOk Tryd.prog G gl H0 n0) : ConOk Tryd.prog G 10 [.a [3, 3]] rgb_s [.s 3, .s 8] := by
  refine con_of_tree (C := cx L_known P_near0) (d := 60) rgb_t (cxg (L_known_ok hst) (P_near0_ok hst)) hst ⟨Tryd.f10, _, Tryd.func10, rfl⟩ (by kernel_rfl) (by kernel_rfl) ?_
  intro us outs hs
  unfold rgb_s at hs
  split at hs
  · rename_i k n
    cases hs
    have q0 := @check_iff k n
    unfold rgb_t
    refine sat_fn [_, _, _] (check_s_e _ _) rfl rfl ?_
    refine sat_lt [_, _, _, _] (ev_neq _ _ _) ⟨by decide, rfl⟩ rfl ?_
    first | refine sat_br rfl (fun g0 => ?_) (fun g0 => ?_) | refine sat_brB rfl (fun g0 => ?_) (fun g0 => ?_)
    · skip
      refine sat_ret [.int .i64 _, .bool _] rfl ?_
      refine rgb_leaf ?_ ?_ <;> first | ((unfold rgbS; repeat' split) <;> first | rfl | omega) | (unfold rgbB; symm; first | exact decide_eq_true (by omega) | exact decide_eq_false (by omega))
    · skip
      refine sat_lt [_, _, _, _, _] (ev_eql _ _ _) ⟨by decide, rfl⟩ rfl ?_
      first | refine sat_br rfl (fun g1 => ?_) (fun g1 => ?_) | refine sat_brB rfl (fun g1 => ?_) (fun g1 => ?_)
      · skip
        refine sat_fn [_, _, _, _, _, _] (at_s_e _ (by omega)) rfl rfl ?_
        refine sat_ret [.int .i64 _, .bool _] rfl ?_
        refine rgb_leaf ?_ ?_ <;> first | ((unfold rgbS; repeat' split) <;> first | rfl | omega) | (unfold rgbB; symm; first | exact decide_eq_true (by omega) | exact decide_eq_false (by omega))
      · skip
        refine sat_lt [_, _, _, _, _, _] (ev_eql _ _ _) ⟨by decide, rfl⟩ rfl ?_
        first | refine sat_br rfl (fun g2 => ?_) (fun g2 => ?_) | refine sat_brB rfl (fun g2 => ?_) (fun g2 => ?_)
        · skip
          refine sat_ret [.int .i64 _, .bool _] rfl ?_
          refine rgb_leaf ?_ ?_ <;> first | ((unfold rgbS; repeat' split) <;> first | rfl | omega) | (unfold rgbB; symm; first | exact decide_eq_true (by omega) | exact decide_eq_false (by omega))
        · skip
          refine sat_ret [.int .i64 _, .bool _] rfl ?_
          refine rgb_leaf ?_ ?_ <;> first | ((unfold rgbS; repeat' split) <;> first | rfl | omega) | (unfold rgbB; symm; first | exact decide_eq_true (by omega) | exact decide_eq_false (by omega))
  · cases hs
def L_rgb : List (FuncId × FnC) := (10, conF [.a [3, 3]] rgb_s [.s 3, .s 8]) :: L_known
theorem L_rgb_ok {G : Nat → Option Obj} (hst : StartOk Tryd.prog G gl H0 n0) : ConsOk Tryd.prog G gl L_rgb := .cons (rgb_c hst) (L_known_ok hst)


def rrgb_s : List U → Option (Nat × List U)
  | [.int .i64 k, .int .i64 n] => some (0, [.int .i64 (rgbS k n), .bool (rgbB k n)])
  | _ => none
theorem rrgb_s_e (k : Int) (n : Int) : rrgb_s [.int .i64 k, .int .i64 n] = some (0, [.int .i64 (rgbS k n), .bool (rgbB k n)]) := rfl
def rrgb_t : Tr := .fn rcheck_s [h 0 3, h 1 3] 1 <| .lt 8 (.bin .neq) [h 2 3, .int .i64 (0)] <| .br 3 (.ret [.int .i64 (0), .bool false]) (.lt 8 (.bin .eql) [h 0 3, .int .i64 (0)] <| .br 4 (.ret [.int .i64 (0), .bool false]) (.lt 8 (.bin .eql) [h 0 3, .int .i64 (1)] <| .br 5 (.fn rindex_s [h 1 3] 1 <| .ret [h 6 3, .bool true]) (.ret [h 1 3, .bool true])))
theorem rrgb_c {G : Nat → Option Obj} (hst : StartOk Tryd.prog G gl H0 n0) : ConOk Tryd.prog G 11 [.a [3, 3]] rrgb_s [.s 3, .s 8] := by
  refine con_of_tree (C := cx L_rgb P_near0) (d := 60) rrgb_t (cxg (L_rgb_ok hst) (P_near0_ok hst)) hst ⟨Tryd.f11, _, Tryd.func11, rfl⟩ (by kernel_rfl) (by kernel_rfl) ?_
  intro us outs hs
  unfold rrgb_s at hs
  split at hs
  · rename_i k n
    cases hs
    have q0 := @check_iff k n
    unfold rrgb_t
    refine sat_fn [_, _, _] (rcheck_s_e _ _) rfl rfl ?_
    refine sat_lt [_, _, _, _] (ev_neq _ _ _) ⟨by decide, rfl⟩ rfl ?_
    first | refine sat_br rfl (fun g0 => ?_) (fun g0 => ?_) | refine sat_brB rfl (fun g0 => ?_) (fun g0 => ?_)
    · skip
      refine sat_ret [.int .i64 _, .bool _] rfl ?_
      refine rgb_leaf ?_ ?_ <;> first | ((unfold rgbS; repeat' split) <;> first | rfl | omega) | (unfold rgbB; symm; first | exact decide_eq_true (by omega) | exact decide_eq_false (by omega))
    · skip
      refine sat_lt [_, _, _, _, _] (ev_eql _ _ _) ⟨by decide, rfl⟩ rfl ?_
      first | refine sat_br rfl (fun g1 => ?_) (fun g1 => ?_) | refine sat_brB rfl (fun g1 => ?_) (fun g1 => ?_)
      · skip
        refine sat_ret [.int .i64 _, .bool _] rfl ?_
        refine rgb_leaf ?_ ?_ <;> first | ((unfold rgbS; repeat' split) <;> first | rfl | omega) | (unfold rgbB; symm; first | exact decide_eq_true (by omega) | exact decide_eq_false (by omega))
      · skip
        refine sat_lt [_, _, _, _, _, _] (ev_eql _ _ _) ⟨by decide, rfl⟩ rfl ?_
        first | refine sat_br rfl (fun g2 => ?_) (fun g2 => ?_) | refine sat_brB rfl (fun g2 => ?_) (fun g2 => ?_)
        · skip
          refine sat_fn [_, _, _, _, _, _, _] (rindex_s_e _ (by omega)) rfl rfl ?_
          refine sat_ret [.int .i64 _, .bool _] rfl ?_
          refine rgb_leaf ?_ ?_ <;> first | ((unfold rgbS; repeat' split) <;> first | rfl | omega) | (unfold rgbB; symm; first | exact decide_eq_true (by omega) | exact decide_eq_false (by omega))
        · skip
          refine sat_ret [.int .i64 _, .bool _] rfl ?_
          refine rgb_leaf ?_ ?_ <;> first | ((unfold rgbS; repeat' split) <;> first | rfl | omega) | (unfold rgbB; symm; first | exact decide_eq_true (by omega) | exact decide_eq_false (by omega))
  · cases hs
def L_rrgb : List (FuncId × FnC) := (11, conF [.a [3, 3]] rrgb_s [.s 3, .s 8]) :: L_rgb
theorem L_rrgb_ok {G : Nat → Option Obj} (hst : StartOk Tryd.prog G gl H0 n0) : ConsOk Tryd.prog G gl L_rrgb := .cons (rrgb_c hst) (L_rgb_ok hst)
end Go.Proofs.YtdmdghooamchfaaDoor
