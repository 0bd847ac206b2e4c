/- What functions of the program come to: contracts, each by the tree of its ways. -/
import Derived.Test.YtdmdghooamchfaaDoorSxB
namespace Go.Proofs.YtdmdghooamchfaaDoor
set_option linter.all false
open Go Go.Sx
set_option maxRecDepth 100000
set_option linter.unusedVariables false
set_option linter.unusedSimpArgs false
def lev (n : Int) : Int := if n = 0 then 0 else 55 + 40 * n
theorem lev_bd {n : Int} (h : 0 ≤ n ∧ n ≤ 5) : 0 ≤ lev n ∧ lev n ≤ 255 := by unfold lev; split <;> omega


def level_s : List U → Option (Nat × List U)
  | [.int .i64 n] => if 0 ≤ n ∧ n ≤ 5 then some (0, [.int .i64 (lev n)]) else none
  | _ => none
theorem level_s_e (n : Int) (hc : 0 ≤ n ∧ n ≤ 5) : level_s [.int .i64 n] = some (0, [.int .i64 (lev n)]) := if_pos hc
def level_t : Tr := .lt 8 (.bin .eql) [h 0 3, .int .i64 (0)] <| .br 1 (.ret [.int .i64 (0)]) (.lt 3 (.bin .mul) [.int .i64 (40), h 0 3] <| .lt 3 (.bin .add) [.int .i64 (55), h 2 3] <| .ret [h 3 3])
theorem level_c {G : Nat → Option Obj} (hst : StartOk Tryd.prog G gl H0 n0) : ConOk Tryd.prog G 37 [.s 3] level_s [.s 3] := by
  refine con_of_tree (C := cx L0 []) (d := 60) level_t (cxg (L0_ok hst) .nil) hst ⟨Tryd.f37, _, Tryd.func37, rfl⟩ (by kernel_rfl) (by kernel_rfl) ?_
  intro us outs hs
  unfold level_s at hs
  split at hs
  · rename_i n
    split at hs
    · rename_i hc
      cases hs
      unfold level_t
      refine sat_lt [_, _] (ev_eql _ _ _) ⟨by decide, rfl⟩ rfl ?_
      first | refine sat_br rfl (fun g0 => ?_) (fun g0 => ?_) | refine sat_brB rfl (fun g0 => ?_) (fun g0 => ?_)
      · skip
        refine sat_ret [.int .i64 _] rfl ?_
        first | (simp [lev, *]; done) | (simp only [lev]; rw [if_neg (by omega)])
      · skip
        first | refine sat_lt [_, _, _] (ev_mulW (wrap64 (by omega) (by omega))) ⟨by decide, rfl⟩ rfl ?_ | refine sat_lt [_, _, _] (ev_mul _ _ _) ⟨by decide, rfl⟩ rfl ?_
        first | refine sat_lt [_, _, _, _] (ev_addW (wrap64 (by omega) (by omega))) ⟨by decide, rfl⟩ rfl ?_ | refine sat_lt [_, _, _, _] (ev_add _ _ _) ⟨by decide, rfl⟩ rfl ?_
        refine sat_ret [.int .i64 _] rfl ?_
        first | (simp [lev, *]; done) | (simp only [lev]; rw [if_neg (by omega)])
    · cases hs
  · cases hs
def L_level : List (FuncId × FnC) := (37, conF [.s 3] level_s [.s 3]) :: L0
theorem L_level_ok {G : Nat → Option Obj} (hst : StartOk Tryd.prog G gl H0 n0) : ConsOk Tryd.prog G gl L_level := .cons (level_c hst) (L0_ok hst)
def checkS (k n : Int) : Int := if (k = 0 ∧ n = 0) ∨ (k = 1 ∧ 0 ≤ n ∧ n ≤ 255) ∨ (k = 2 ∧ 0 ≤ n ∧ n ≤ 16777215) then 0 else 130

def check_s : List U → Option (Nat × List U)
  | [.int .i64 k, .int .i64 n] => some (0, [.int .i64 (checkS k n)])
  | _ => none
theorem check_s_e (k : Int) (n : Int) : check_s [.int .i64 k, .int .i64 n] = some (0, [.int .i64 (checkS k n)]) := rfl
def check_t : Tr := .lt 8 (.bin .lss) [h 0 3, .int .i64 (0)] <| .br 2 (.ret [.int .i64 (130)]) (.lt 8 (.bin .geq) [h 0 3, .int .i64 (3)] <| .br 3 (.ret [.int .i64 (130)]) (.lt 8 (.bin .lss) [h 1 3, .int .i64 (0)] <| .br 4 (.ret [.int .i64 (130)]) (.lt 8 (.inb) [h 0 3, .int .i64 (3)] <| .br 5 (.lt 3 (.sel) [h 0 3, .int .i64 (0), .int .i64 (255), .int .i64 (16777215)] <| .lt 8 (.bin .gtr) [h 1 3, h 6 3] <| .br 7 (.ret [.int .i64 (130)]) (.ret [.int .i64 (0)])) (.no))))
theorem check_c {G : Nat → Option Obj} (hst : StartOk Tryd.prog G gl H0 n0) : ConOk Tryd.prog G 14 [.a [3, 3]] check_s [.s 3] := by
  refine con_of_tree (C := cx L_level []) (d := 60) check_t (cxg (L_level_ok hst) .nil) hst ⟨Tryd.f14, _, Tryd.func14, rfl⟩ (by kernel_rfl) (by kernel_rfl) ?_
  intro us outs hs
  unfold check_s at hs
  split at hs
  · rename_i k n
    cases hs
    unfold check_t
    refine sat_lt [_, _, _] (ev_lss _ _ _) ⟨by decide, rfl⟩ rfl ?_
    first | refine sat_br rfl (fun g0 => ?_) (fun g0 => ?_) | refine sat_brB rfl (fun g0 => ?_) (fun g0 => ?_)
    · skip
      refine sat_ret [.int .i64 _] rfl ?_
      simp only [checkS]; first | (rw [if_pos (by omega)]; done) | (rw [if_neg (by omega)]; done) | ((obtain rfl | rfl | rfl : k = 0 ∨ k = 1 ∨ k = 2 := (by omega)) <;> simp at * <;> first | (rw [if_pos (by omega)]; done) | (rw [if_neg (by omega)]; done) | omega)
    · skip
      refine sat_lt [_, _, _, _] (ev_geq _ _ _) ⟨by decide, rfl⟩ rfl ?_
      first | refine sat_br rfl (fun g1 => ?_) (fun g1 => ?_) | refine sat_brB rfl (fun g1 => ?_) (fun g1 => ?_)
      · skip
        refine sat_ret [.int .i64 _] rfl ?_
        simp only [checkS]; first | (rw [if_pos (by omega)]; done) | (rw [if_neg (by omega)]; done) | ((obtain rfl | rfl | rfl : k = 0 ∨ k = 1 ∨ k = 2 := (by omega)) <;> simp at * <;> first | (rw [if_pos (by omega)]; done) | (rw [if_neg (by omega)]; done) | omega)
      · skip
        refine sat_lt [_, _, _, _, _] (ev_lss _ _ _) ⟨by decide, rfl⟩ rfl ?_
        first | refine sat_br rfl (fun g2 => ?_) (fun g2 => ?_) | refine sat_brB rfl (fun g2 => ?_) (fun g2 => ?_)
        · skip
          refine sat_ret [.int .i64 _] rfl ?_
          simp only [checkS]; first | (rw [if_pos (by omega)]; done) | (rw [if_neg (by omega)]; done) | ((obtain rfl | rfl | rfl : k = 0 ∨ k = 1 ∨ k = 2 := (by omega)) <;> simp at * <;> first | (rw [if_pos (by omega)]; done) | (rw [if_neg (by omega)]; done) | omega)
        · skip
          refine sat_lt [_, _, _, _, _, _] (ev_inb _ _ _ _) ⟨by decide, rfl⟩ rfl ?_
          first | refine sat_br rfl (fun g3 => ?_) (fun g3 => ?_) | refine sat_brB rfl (fun g3 => ?_) (fun g3 => ?_)
          · skip
            refine sat_lt [_, _, _, _, _, _, _] (ev_selI [0, 255, 16777215] (by omega) (by show _ < ((3 : Nat) : Int); omega)) ⟨by decide, rfl⟩ rfl ?_
            refine sat_lt [_, _, _, _, _, _, _, _] (ev_gtr _ _ _) ⟨by decide, rfl⟩ rfl ?_
            first | refine sat_br rfl (fun g4 => ?_) (fun g4 => ?_) | refine sat_brB rfl (fun g4 => ?_) (fun g4 => ?_)
            · skip
              refine sat_ret [.int .i64 _] rfl ?_
              simp only [checkS]; first | (rw [if_pos (by omega)]; done) | (rw [if_neg (by omega)]; done) | ((obtain rfl | rfl | rfl : k = 0 ∨ k = 1 ∨ k = 2 := (by omega)) <;> simp at * <;> first | (rw [if_pos (by omega)]; done) | (rw [if_neg (by omega)]; done) | omega)
            · skip
              refine sat_ret [.int .i64 _] rfl ?_
              simp only [checkS]; first | (rw [if_pos (by omega)]; done) | (rw [if_neg (by omega)]; done) | ((obtain rfl | rfl | rfl : k = 0 ∨ k = 1 ∨ k = 2 := (by omega)) <;> simp at * <;> first | (rw [if_pos (by omega)]; done) | (rw [if_neg (by omega)]; done) | omega)
          · skip
            first | omega | (exfalso; simp_all; done) | (exfalso; simp_all; omega)
  · cases hs
def L_check : List (FuncId × FnC) := (14, conF [.a [3, 3]] check_s [.s 3]) :: L_level
theorem L_check_ok {G : Nat → Option Obj} (hst : StartOk Tryd.prog G gl H0 n0) : ConsOk Tryd.prog G gl L_check := .cons (check_c hst) (L_level_ok hst)


def rcheck_s : List U → Option (Nat × List U)
  | [.int .i64 k, .int .i64 n] => some (0, [.int .i64 (checkS k n)])
  | _ => none
theorem rcheck_s_e (k : Int) (n : Int) : rcheck_s [.int .i64 k, .int .i64 n] = some (0, [.int .i64 (checkS k n)]) := rfl
def rcheck_t : Tr := .lt 8 (.bin .eql) [h 0 3, .int .i64 (0)] <| .br 2 (.lt 8 (.bin .eql) [h 1 3, .int .i64 (0)] <| .br 3 (.ret [.int .i64 (0)]) (.ret [.int .i64 (130)])) (.lt 8 (.bin .eql) [h 0 3, .int .i64 (1)] <| .br 3 (.lt 8 (.bin .geq) [h 1 3, .int .i64 (0)] <| .br 4 (.lt 8 (.bin .leq) [h 1 3, .int .i64 (255)] <| .br 5 (.ret [.int .i64 (0)]) (.ret [.int .i64 (130)])) (.ret [.int .i64 (130)])) (.lt 8 (.bin .eql) [h 0 3, .int .i64 (2)] <| .br 4 (.lt 8 (.bin .geq) [h 1 3, .int .i64 (0)] <| .br 5 (.lt 8 (.bin .leq) [h 1 3, .int .i64 (16777215)] <| .br 6 (.ret [.int .i64 (0)]) (.ret [.int .i64 (130)])) (.ret [.int .i64 (130)])) (.ret [.int .i64 (130)])))
theorem rcheck_c {G : Nat → Option Obj} (hst : StartOk Tryd.prog G gl H0 n0) : ConOk Tryd.prog G 15 [.a [3, 3]] rcheck_s [.s 3] := by
  refine con_of_tree (C := cx L_check []) (d := 60) rcheck_t (cxg (L_check_ok hst) .nil) hst ⟨Tryd.f15, _, Tryd.func15, rfl⟩ (by kernel_rfl) (by kernel_rfl) ?_
  intro us outs hs
  unfold rcheck_s at hs
  split at hs
  · rename_i k n
    cases hs
    unfold rcheck_t
    refine sat_lt [_, _, _] (ev_eql _ _ _) ⟨by decide, rfl⟩ rfl ?_
    first | refine sat_br rfl (fun g0 => ?_) (fun g0 => ?_) | refine sat_brB rfl (fun g0 => ?_) (fun g0 => ?_)
    · skip
      refine sat_lt [_, _, _, _] (ev_eql _ _ _) ⟨by decide, rfl⟩ rfl ?_
      first | refine sat_br rfl (fun g1 => ?_) (fun g1 => ?_) | refine sat_brB rfl (fun g1 => ?_) (fun g1 => ?_)
      · skip
        refine sat_ret [.int .i64 _] rfl ?_
        simp only [checkS]; first | (rw [if_pos (by omega)]; done) | (rw [if_neg (by omega)]; done) | ((obtain rfl | rfl | rfl : k = 0 ∨ k = 1 ∨ k = 2 := (by omega)) <;> simp at * <;> first | (rw [if_pos (by omega)]; done) | (rw [if_neg (by omega)]; done) | omega)
      · skip
        refine sat_ret [.int .i64 _] rfl ?_
        simp only [checkS]; first | (rw [if_pos (by omega)]; done) | (rw [if_neg (by omega)]; done) | ((obtain rfl | rfl | rfl : k = 0 ∨ k = 1 ∨ k = 2 := (by omega)) <;> simp at * <;> first | (rw [if_pos (by omega)]; done) | (rw [if_neg (by omega)]; done) | omega)
    · skip
      refine sat_lt [_, _, _, _] (ev_eql _ _ _) ⟨by decide, rfl⟩ rfl ?_
      first | refine sat_br rfl (fun g1 => ?_) (fun g1 => ?_) | refine sat_brB rfl (fun g1 => ?_) (fun g1 => ?_)
      · skip
        refine sat_lt [_, _, _, _, _] (ev_geq _ _ _) ⟨by decide, rfl⟩ rfl ?_
        first | refine sat_br rfl (fun g2 => ?_) (fun g2 => ?_) | refine sat_brB rfl (fun g2 => ?_) (fun g2 => ?_)
        · skip
          refine sat_lt [_, _, _, _, _, _] (ev_leq _ _ _) ⟨by decide, rfl⟩ rfl ?_
          first | refine sat_br rfl (fun g3 => ?_) (fun g3 => ?_) | refine sat_brB rfl (fun g3 => ?_) (fun g3 => ?_)
          · skip
            refine sat_ret [.int .i64 _] rfl ?_
            simp only [checkS]; first | (rw [if_pos (by omega)]; done) | (rw [if_neg (by omega)]; done) | ((obtain rfl | rfl | rfl : k = 0 ∨ k = 1 ∨ k = 2 := (by omega)) <;> simp at * <;> first | (rw [if_pos (by omega)]; done) | (rw [if_neg (by omega)]; done) | omega)
          · skip
            refine sat_ret [.int .i64 _] rfl ?_
            simp only [checkS]; first | (rw [if_pos (by omega)]; done) | (rw [if_neg (by omega)]; done) | ((obtain rfl | rfl | rfl : k = 0 ∨ k = 1 ∨ k = 2 := (by omega)) <;> simp at * <;> first | (rw [if_pos (by omega)]; done) | (rw [if_neg (by omega)]; done) | omega)
        · skip
          refine sat_ret [.int .i64 _] rfl ?_
          simp only [checkS]; first | (rw [if_pos (by omega)]; done) | (rw [if_neg (by omega)]; done) | ((obtain rfl | rfl | rfl : k = 0 ∨ k = 1 ∨ k = 2 := (by omega)) <;> simp at * <;> first | (rw [if_pos (by omega)]; done) | (rw [if_neg (by omega)]; done) | omega)
      · skip
        refine sat_lt [_, _, _, _, _] (ev_eql _ _ _) ⟨by decide, rfl⟩ rfl ?_
        first | refine sat_br rfl (fun g2 => ?_) (fun g2 => ?_) | refine sat_brB rfl (fun g2 => ?_) (fun g2 => ?_)
        · skip
          refine sat_lt [_, _, _, _, _, _] (ev_geq _ _ _) ⟨by decide, rfl⟩ rfl ?_
          first | refine sat_br rfl (fun g3 => ?_) (fun g3 => ?_) | refine sat_brB rfl (fun g3 => ?_) (fun g3 => ?_)
          · skip
            refine sat_lt [_, _, _, _, _, _, _] (ev_leq _ _ _) ⟨by decide, rfl⟩ rfl ?_
            first | refine sat_br rfl (fun g4 => ?_) (fun g4 => ?_) | refine sat_brB rfl (fun g4 => ?_) (fun g4 => ?_)
            · skip
              refine sat_ret [.int .i64 _] rfl ?_
              simp only [checkS]; first | (rw [if_pos (by omega)]; done) | (rw [if_neg (by omega)]; done) | ((obtain rfl | rfl | rfl : k = 0 ∨ k = 1 ∨ k = 2 := (by omega)) <;> simp at * <;> first | (rw [if_pos (by omega)]; done) | (rw [if_neg (by omega)]; done) | omega)
            · skip
              refine sat_ret [.int .i64 _] rfl ?_
              simp only [checkS]; first | (rw [if_pos (by omega)]; done) | (rw [if_neg (by omega)]; done) | ((obtain rfl | rfl | rfl : k = 0 ∨ k = 1 ∨ k = 2 := (by omega)) <;> simp at * <;> first | (rw [if_pos (by omega)]; done) | (rw [if_neg (by omega)]; done) | omega)
          · skip
            refine sat_ret [.int .i64 _] rfl ?_
            simp only [checkS]; first | (rw [if_pos (by omega)]; done) | (rw [if_neg (by omega)]; done) | ((obtain rfl | rfl | rfl : k = 0 ∨ k = 1 ∨ k = 2 := (by omega)) <;> simp at * <;> first | (rw [if_pos (by omega)]; done) | (rw [if_neg (by omega)]; done) | omega)
        · skip
          refine sat_ret [.int .i64 _] rfl ?_
          simp only [checkS]; first | (rw [if_pos (by omega)]; done) | (rw [if_neg (by omega)]; done) | ((obtain rfl | rfl | rfl : k = 0 ∨ k = 1 ∨ k = 2 := (by omega)) <;> simp at * <;> first | (rw [if_pos (by omega)]; done) | (rw [if_neg (by omega)]; done) | omega)
  · cases hs
def L_rcheck : List (FuncId × FnC) := (15, conF [.a [3, 3]] rcheck_s [.s 3]) :: L_check
theorem L_rcheck_ok {G : Nat → Option Obj} (hst : StartOk Tryd.prog G gl H0 n0) : ConsOk Tryd.prog G gl L_rcheck := .cons (rcheck_c hst) (L_check_ok hst)
end Go.Proofs.YtdmdghooamchfaaDoor
