/- What functions of the program come to: contracts, each by the tree of its ways. -/
import Derived.Test.YtdmdghooamchfaaDoorSxC10
namespace Go.Proofs.YtdmdghooamchfaaDoor
set_option linter.all false
open Go Go.Sx
set_option maxRecDepth 100000
set_option linter.unusedVariables false
set_option linter.unusedSimpArgs false
theorem sqS_comm (a b c : Int) : sqS a b c = sqS b a c := by
  unfold sqS
  rw [← Int.neg_sub (b / c % 256) (a / c % 256), Int.neg_mul_neg]
theorem distS_comm (a b : Int) : distS a b = distS b a := by unfold distS; rw [sqS_comm a b 1, sqS_comm a b 256, sqS_comm a b 65536]
theorem dist_bd (a b : Int) : 0 ≤ distS a b ∧ distS a b ≤ 195075 := by
  have q1 := sqS_bd a b 1 (by decide)
  have q2 := sqS_bd a b 256 (by decide)
  have q3 := sqS_bd a b 65536 (by decide)
  unfold distS; omega
theorem farR {a b : Int} (h : 0 ≤ a ∧ a ≤ 16777215) (k : 0 ≤ b ∧ b ≤ 16777215) : (a / 65536 - b / 65536) * (a / 65536 - b / 65536) + (a / 256 % 256 - b / 256 % 256) * (a / 256 % 256 - b / 256 % 256) + (a % 256 - b % 256) * (a % 256 - b % 256) = distS b a := by
  rw [distS_comm]
  unfold distS sqS
  rw [show a / 1 = a by omega, show b / 1 = b by omega, show a / 65536 % 256 = a / 65536 by omega, show b / 65536 % 256 = b / 65536 by omega]
  generalize (a / 65536 - b / 65536) * (a / 65536 - b / 65536) = p
  generalize (a / 256 % 256 - b / 256 % 256) * (a / 256 % 256 - b / 256 % 256) = q
  generalize (a % 256 - b % 256) * (a % 256 - b % 256) = r
  omega


def far_s : List U → Option (Nat × List U)
  | [.int .i64 a, .int .i64 b] => if (0 ≤ a ∧ a ≤ 16777215) ∧ (0 ≤ b ∧ b ≤ 16777215) then some (0, [.int .i64 (distS b a)]) else none
  | _ => none
theorem far_s_e (a : Int) (b : Int) (hc : (0 ≤ a ∧ a ≤ 16777215) ∧ (0 ≤ b ∧ b ≤ 16777215)) : far_s [.int .i64 a, .int .i64 b] = some (0, [.int .i64 (distS b a)]) := if_pos hc
def far_t : Tr := .lt 3 (.bin .shr) [h 0 3, .int .u64 (0)] <| .lt 3 (.bin .and) [h 2 3, .int .i64 (255)] <| .lt 3 (.bin .shr) [h 1 3, .int .u64 (0)] <| .lt 3 (.bin .and) [h 4 3, .int .i64 (255)] <| .lt 3 (.bin .sub) [h 3 3, h 5 3] <| .lt 3 (.bin .mul) [h 6 3, h 6 3] <| .lt 3 (.bin .add) [.int .i64 (0), h 7 3] <| .lt 3 (.bin .shr) [h 0 3, .int .u64 (8)] <| .lt 3 (.bin .and) [h 9 3, .int .i64 (255)] <| .lt 3 (.bin .shr) [h 1 3, .int .u64 (8)] <| .lt 3 (.bin .and) [h 11 3, .int .i64 (255)] <| .lt 3 (.bin .sub) [h 10 3, h 12 3] <| .lt 3 (.bin .mul) [h 13 3, h 13 3] <| .lt 3 (.bin .add) [h 8 3, h 14 3] <| .lt 3 (.bin .shr) [h 0 3, .int .u64 (16)] <| .lt 3 (.bin .and) [h 16 3, .int .i64 (255)] <| .lt 3 (.bin .shr) [h 1 3, .int .u64 (16)] <| .lt 3 (.bin .and) [h 18 3, .int .i64 (255)] <| .lt 3 (.bin .sub) [h 17 3, h 19 3] <| .lt 3 (.bin .mul) [h 20 3, h 20 3] <| .lt 3 (.bin .add) [h 15 3, h 21 3] <| .ret [h 22 3]
theorem far_c {G : Nat → Option Obj} (hst : StartOk Tryd.prog G gl H0 n0) : ConOk Tryd.prog G 23 [.s 3, .s 3] far_s [.s 3] := by
  refine con_of_tree (C := cx L_cube P_near0) (d := 60) far_t (cxg (L_cube_ok hst) (P_near0_ok hst)) hst ⟨Tryd.f23, _, Tryd.func23, rfl⟩ (by kernel_rfl) (by kernel_rfl) ?_
  intro us outs hs
  unfold far_s at hs
  split at hs
  · rename_i a b
    split at hs
    · rename_i hc
      cases hs
      have q1 := sqS_bd a b 1 (by decide)
      have q2 := sqS_bd a b 256 (by decide)
      have q3 := sqS_bd a b 65536 (by decide)
      unfold sqS at q1 q2 q3
      unfold far_t
      refine sat_lt [_, _, _] (ev_shrL 1 (by decide) (by decide)) ⟨by decide, rfl⟩ rfl ?_
      refine sat_lt [_, _, _, _] (ev_andR 8 256 (by decide) (by decide) (by decide)) ⟨by decide, rfl⟩ rfl ?_
      refine sat_lt [_, _, _, _, _] (ev_shrL 1 (by decide) (by decide)) ⟨by decide, rfl⟩ rfl ?_
      refine sat_lt [_, _, _, _, _, _] (ev_andR 8 256 (by decide) (by decide) (by decide)) ⟨by decide, rfl⟩ rfl ?_
      first | refine sat_lt [_, _, _, _, _, _, _] (ev_subW (wrap64 (by omega) (by omega))) ⟨by decide, rfl⟩ rfl ?_ | refine sat_lt [_, _, _, _, _, _, _] (ev_sub _ _ _) ⟨by decide, rfl⟩ rfl ?_
      first | refine sat_lt [_, _, _, _, _, _, _, _] (ev_mulW (wrap64 (by omega) (by omega))) ⟨by decide, rfl⟩ rfl ?_ | refine sat_lt [_, _, _, _, _, _, _, _] (ev_mul _ _ _) ⟨by decide, rfl⟩ rfl ?_
      first | refine sat_lt [_, _, _, _, _, _, _, _, _] (ev_addW (wrap64 (by omega) (by omega))) ⟨by decide, rfl⟩ rfl ?_ | refine sat_lt [_, _, _, _, _, _, _, _, _] (ev_add _ _ _) ⟨by decide, rfl⟩ rfl ?_
      refine sat_lt [_, _, _, _, _, _, _, _, _, _] (ev_shrL 256 (by decide) (by decide)) ⟨by decide, rfl⟩ rfl ?_
      refine sat_lt [_, _, _, _, _, _, _, _, _, _, _] (ev_andR 8 256 (by decide) (by decide) (by decide)) ⟨by decide, rfl⟩ rfl ?_
      refine sat_lt [_, _, _, _, _, _, _, _, _, _, _, _] (ev_shrL 256 (by decide) (by decide)) ⟨by decide, rfl⟩ rfl ?_
      refine sat_lt [_, _, _, _, _, _, _, _, _, _, _, _, _] (ev_andR 8 256 (by decide) (by decide) (by decide)) ⟨by decide, rfl⟩ rfl ?_
      first | refine sat_lt [_, _, _, _, _, _, _, _, _, _, _, _, _, _] (ev_subW (wrap64 (by omega) (by omega))) ⟨by decide, rfl⟩ rfl ?_ | refine sat_lt [_, _, _, _, _, _, _, _, _, _, _, _, _, _] (ev_sub _ _ _) ⟨by decide, rfl⟩ rfl ?_
      first | refine sat_lt [_, _, _, _, _, _, _, _, _, _, _, _, _, _, _] (ev_mulW (wrap64 (by omega) (by omega))) ⟨by decide, rfl⟩ rfl ?_ | refine sat_lt [_, _, _, _, _, _, _, _, _, _, _, _, _, _, _] (ev_mul _ _ _) ⟨by decide, rfl⟩ rfl ?_
      first | refine sat_lt [_, _, _, _, _, _, _, _, _, _, _, _, _, _, _, _] (ev_addW (wrap64 (by omega) (by omega))) ⟨by decide, rfl⟩ rfl ?_ | refine sat_lt [_, _, _, _, _, _, _, _, _, _, _, _, _, _, _, _] (ev_add _ _ _) ⟨by decide, rfl⟩ rfl ?_
      refine sat_lt [_, _, _, _, _, _, _, _, _, _, _, _, _, _, _, _, _] (ev_shrL 65536 (by decide) (by decide)) ⟨by decide, rfl⟩ rfl ?_
      refine sat_lt [_, _, _, _, _, _, _, _, _, _, _, _, _, _, _, _, _, _] (ev_andR 8 256 (by decide) (by decide) (by decide)) ⟨by decide, rfl⟩ rfl ?_
      refine sat_lt [_, _, _, _, _, _, _, _, _, _, _, _, _, _, _, _, _, _, _] (ev_shrL 65536 (by decide) (by decide)) ⟨by decide, rfl⟩ rfl ?_
      refine sat_lt [_, _, _, _, _, _, _, _, _, _, _, _, _, _, _, _, _, _, _, _] (ev_andR 8 256 (by decide) (by decide) (by decide)) ⟨by decide, rfl⟩ rfl ?_
      first | refine sat_lt [_, _, _, _, _, _, _, _, _, _, _, _, _, _, _, _, _, _, _, _, _] (ev_subW (wrap64 (by omega) (by omega))) ⟨by decide, rfl⟩ rfl ?_ | refine sat_lt [_, _, _, _, _, _, _, _, _, _, _, _, _, _, _, _, _, _, _, _, _] (ev_sub _ _ _) ⟨by decide, rfl⟩ rfl ?_
      first | refine sat_lt [_, _, _, _, _, _, _, _, _, _, _, _, _, _, _, _, _, _, _, _, _, _] (ev_mulW (wrap64 (by omega) (by omega))) ⟨by decide, rfl⟩ rfl ?_ | refine sat_lt [_, _, _, _, _, _, _, _, _, _, _, _, _, _, _, _, _, _, _, _, _, _] (ev_mul _ _ _) ⟨by decide, rfl⟩ rfl ?_
      first | refine sat_lt [_, _, _, _, _, _, _, _, _, _, _, _, _, _, _, _, _, _, _, _, _, _, _] (ev_addW (wrap64 (by omega) (by omega))) ⟨by decide, rfl⟩ rfl ?_ | refine sat_lt [_, _, _, _, _, _, _, _, _, _, _, _, _, _, _, _, _, _, _, _, _, _, _] (ev_add _ _ _) ⟨by decide, rfl⟩ rfl ?_
      refine sat_ret [.int .i64 _] rfl ?_
      rw [distS_comm b a]; rfl
    · cases hs
  · cases hs
def L_far : List (FuncId × FnC) := (23, conF [.s 3, .s 3] far_s [.s 3]) :: L_cube
theorem L_far_ok {G : Nat → Option Obj} (hst : StartOk Tryd.prog G gl H0 n0) : ConsOk Tryd.prog G gl L_far := .cons (far_c hst) (L_cube_ok hst)


def rfar_s : List U → Option (Nat × List U)
  | [.int .i64 a, .int .i64 b] => if (0 ≤ a ∧ a ≤ 16777215) ∧ (0 ≤ b ∧ b ≤ 16777215) then some (0, [.int .i64 (distS b a)]) else none
  | _ => none
theorem rfar_s_e (a : Int) (b : Int) (hc : (0 ≤ a ∧ a ≤ 16777215) ∧ (0 ≤ b ∧ b ≤ 16777215)) : rfar_s [.int .i64 a, .int .i64 b] = some (0, [.int .i64 (distS b a)]) := if_pos hc
def rfar_t : Tr := .lt 3 (.bin .quo) [h 0 3, .int .i64 (65536)] <| .lt 3 (.bin .quo) [h 1 3, .int .i64 (65536)] <| .lt 3 (.bin .sub) [h 2 3, h 3 3] <| .lt 3 (.bin .quo) [h 0 3, .int .i64 (256)] <| .lt 3 (.bin .rem) [h 5 3, .int .i64 (256)] <| .lt 3 (.bin .quo) [h 1 3, .int .i64 (256)] <| .lt 3 (.bin .rem) [h 7 3, .int .i64 (256)] <| .lt 3 (.bin .sub) [h 6 3, h 8 3] <| .lt 3 (.bin .rem) [h 0 3, .int .i64 (256)] <| .lt 3 (.bin .rem) [h 1 3, .int .i64 (256)] <| .lt 3 (.bin .sub) [h 10 3, h 11 3] <| .lt 3 (.bin .mul) [h 4 3, h 4 3] <| .lt 3 (.bin .mul) [h 9 3, h 9 3] <| .lt 3 (.bin .add) [h 13 3, h 14 3] <| .lt 3 (.bin .mul) [h 12 3, h 12 3] <| .lt 3 (.bin .add) [h 15 3, h 16 3] <| .ret [h 17 3]
theorem rfar_c {G : Nat → Option Obj} (hst : StartOk Tryd.prog G gl H0 n0) : ConOk Tryd.prog G 32 [.s 3, .s 3] rfar_s [.s 3] := by
  refine con_of_tree (C := cx L_far P_near0) (d := 60) rfar_t (cxg (L_far_ok hst) (P_near0_ok hst)) hst ⟨Tryd.f32, _, Tryd.func32, rfl⟩ (by kernel_rfl) (by kernel_rfl) ?_
  intro us outs hs
  unfold rfar_s at hs
  split at hs
  · rename_i a b
    split at hs
    · rename_i hc
      cases hs
      have q1 := sq_bd (x := a / 65536) (y := b / 65536) (by omega) (by omega)
      have q2 := sq_bd (x := a / 256 % 256) (y := b / 256 % 256) (by omega) (by omega)
      have q3 := sq_bd (x := a % 256) (y := b % 256) (by omega) (by omega)
      unfold rfar_t
      first | refine sat_lt [_, _, _] (ev_quoW (by omega) (by omega) (wrap64 (by omega) (by omega))) ⟨by decide, rfl⟩ rfl ?_ | refine sat_lt [_, _, _] (ev_quo _ _ _ (by omega)) ⟨by decide, rfl⟩ rfl ?_
      first | refine sat_lt [_, _, _, _] (ev_quoW (by omega) (by omega) (wrap64 (by omega) (by omega))) ⟨by decide, rfl⟩ rfl ?_ | refine sat_lt [_, _, _, _] (ev_quo _ _ _ (by omega)) ⟨by decide, rfl⟩ rfl ?_
      first | refine sat_lt [_, _, _, _, _] (ev_subW (wrap64 (by omega) (by omega))) ⟨by decide, rfl⟩ rfl ?_ | refine sat_lt [_, _, _, _, _] (ev_sub _ _ _) ⟨by decide, rfl⟩ rfl ?_
      first | refine sat_lt [_, _, _, _, _, _] (ev_quoW (by omega) (by omega) (wrap64 (by omega) (by omega))) ⟨by decide, rfl⟩ rfl ?_ | refine sat_lt [_, _, _, _, _, _] (ev_quo _ _ _ (by omega)) ⟨by decide, rfl⟩ rfl ?_
      first | refine sat_lt [_, _, _, _, _, _, _] (ev_remW (by omega) (by omega)) ⟨by decide, rfl⟩ rfl ?_ | refine sat_lt [_, _, _, _, _, _, _] (ev_rem _ _ _ (by omega)) ⟨by decide, rfl⟩ rfl ?_
      first | refine sat_lt [_, _, _, _, _, _, _, _] (ev_quoW (by omega) (by omega) (wrap64 (by omega) (by omega))) ⟨by decide, rfl⟩ rfl ?_ | refine sat_lt [_, _, _, _, _, _, _, _] (ev_quo _ _ _ (by omega)) ⟨by decide, rfl⟩ rfl ?_
      first | refine sat_lt [_, _, _, _, _, _, _, _, _] (ev_remW (by omega) (by omega)) ⟨by decide, rfl⟩ rfl ?_ | refine sat_lt [_, _, _, _, _, _, _, _, _] (ev_rem _ _ _ (by omega)) ⟨by decide, rfl⟩ rfl ?_
      first | refine sat_lt [_, _, _, _, _, _, _, _, _, _] (ev_subW (wrap64 (by omega) (by omega))) ⟨by decide, rfl⟩ rfl ?_ | refine sat_lt [_, _, _, _, _, _, _, _, _, _] (ev_sub _ _ _) ⟨by decide, rfl⟩ rfl ?_
      first | refine sat_lt [_, _, _, _, _, _, _, _, _, _, _] (ev_remW (by omega) (by omega)) ⟨by decide, rfl⟩ rfl ?_ | refine sat_lt [_, _, _, _, _, _, _, _, _, _, _] (ev_rem _ _ _ (by omega)) ⟨by decide, rfl⟩ rfl ?_
      first | refine sat_lt [_, _, _, _, _, _, _, _, _, _, _, _] (ev_remW (by omega) (by omega)) ⟨by decide, rfl⟩ rfl ?_ | refine sat_lt [_, _, _, _, _, _, _, _, _, _, _, _] (ev_rem _ _ _ (by omega)) ⟨by decide, rfl⟩ rfl ?_
      first | refine sat_lt [_, _, _, _, _, _, _, _, _, _, _, _, _] (ev_subW (wrap64 (by omega) (by omega))) ⟨by decide, rfl⟩ rfl ?_ | refine sat_lt [_, _, _, _, _, _, _, _, _, _, _, _, _] (ev_sub _ _ _) ⟨by decide, rfl⟩ rfl ?_
      first | refine sat_lt [_, _, _, _, _, _, _, _, _, _, _, _, _, _] (ev_mulW (wrap64 (by omega) (by omega))) ⟨by decide, rfl⟩ rfl ?_ | refine sat_lt [_, _, _, _, _, _, _, _, _, _, _, _, _, _] (ev_mul _ _ _) ⟨by decide, rfl⟩ rfl ?_
      first | refine sat_lt [_, _, _, _, _, _, _, _, _, _, _, _, _, _, _] (ev_mulW (wrap64 (by omega) (by omega))) ⟨by decide, rfl⟩ rfl ?_ | refine sat_lt [_, _, _, _, _, _, _, _, _, _, _, _, _, _, _] (ev_mul _ _ _) ⟨by decide, rfl⟩ rfl ?_
      first | refine sat_lt [_, _, _, _, _, _, _, _, _, _, _, _, _, _, _, _] (ev_addW (wrap64 (by omega) (by omega))) ⟨by decide, rfl⟩ rfl ?_ | refine sat_lt [_, _, _, _, _, _, _, _, _, _, _, _, _, _, _, _] (ev_add _ _ _) ⟨by decide, rfl⟩ rfl ?_
      first | refine sat_lt [_, _, _, _, _, _, _, _, _, _, _, _, _, _, _, _, _] (ev_mulW (wrap64 (by omega) (by omega))) ⟨by decide, rfl⟩ rfl ?_ | refine sat_lt [_, _, _, _, _, _, _, _, _, _, _, _, _, _, _, _, _] (ev_mul _ _ _) ⟨by decide, rfl⟩ rfl ?_
      first | refine sat_lt [_, _, _, _, _, _, _, _, _, _, _, _, _, _, _, _, _, _] (ev_addW (wrap64 (by omega) (by omega))) ⟨by decide, rfl⟩ rfl ?_ | refine sat_lt [_, _, _, _, _, _, _, _, _, _, _, _, _, _, _, _, _, _] (ev_add _ _ _) ⟨by decide, rfl⟩ rfl ?_
      refine sat_ret [.int .i64 _] rfl ?_
      exact congrArg (fun z => [U.int .i64 z]) (farR hc.1 hc.2)
    · cases hs
  · cases hs
def L_rfar : List (FuncId × FnC) := (32, conF [.s 3, .s 3] rfar_s [.s 3]) :: L_far
theorem L_rfar_ok {G : Nat → Option Obj} (hst : StartOk Tryd.prog G gl H0 n0) : ConsOk Tryd.prog G gl L_rfar := .cons (rfar_c hst) (L_far_ok hst)
end Go.Proofs.YtdmdghooamchfaaDoor
